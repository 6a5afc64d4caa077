/- One operation looks at some slots alone. -/
import Derived.Test.YtaegajachoklkaaGreatE3
import Derived.Laws.StructEq
import Derived.Lib.SliceRun
import Derived.ProofKit
set_option linter.unusedVariables false
set_option linter.unusedSimpArgs false
open Array renaming getElem?_eq_getElem->BP,getD_eq_getD_getElem?->BQ,replicate->CF,all_eq_true_iff_forall_mem->CQ,getElem?_eq_some_iff->CY,getElem?_append_left->CZ,getElem?_replicate->Cf,mem_of_getElem?->Cl,length_toList->Cr,mem_append->C5
open Bool renaming and_eq_true->BF,not_eq_true'->CH,or_eq_true->CT,false_eq_true->CW,and_false->CX,and_true->Ce,true_and->Cv,not_false->DD
open Classical renaming byContradiction->B8
open Go.ByteArray renaming toList_eq->Ct
open Go.Result renaming andThen_ok->CL
open Go.Sem renaming run_bind->CR,run_pure->C0
open Go.Value renaming okWide->DF
open List renaming mem_append->BE,mem_append_left->BG,mem_append_right->BH,mem_cons_of_mem->BI,mem_cons_self->BJ,getElem?_eq_some_iff->BN,mem_map->BO,mem_cons->BR,getD_eq_getElem?_getD->BS,flatten_cons->BT,getElem?_eq_getElem->BU,mem_flatMap->BW,count_append->BX,mem_singleton_self->BY,count_pos_iff->BZ,all_eq_true->B3,map_cons->B4,getElem?_append_right->B5,getElem?_append_left->B7,append_assoc->CA,nil_append->CC,mem_singleton->CD,nodup_cons->CE,length_cons->CJ,nodup_append->CK,mem_filter->CO,any_eq_true->CS,map_append->CU,count_cons->CV,nodup_nil->Ca,count_eq_zero->Cb,any_eq_false->Cc,all_cons->Cd,getElem?_cons_succ->Ch,getElem?_eq_none->Ck,drop_drop->Cm,mapM_cons->Co,map_congr_left->Cq,countP_eq_zero->Cs,getElem_of_mem->Cu,set_cons_succ->Cw,find?_eq_none->Cy,getElem?_map->Cz,size_toArray->C3,mem_toArray->C4,countP_cons->C6,foldl_cons->DA,range->DC,map_nil->DE
open List.cons renaming injEq->Cj
open Nat renaming eq_of_beq_eq_true->BK,beq->BM,le_of_ble_eq_true->B9,lt_succ_self->CM,zero_add->CN,blt_eq->CP,blt->Ci,le_refl->Cn,ble->Cp,lt_of_lt_of_le->Cx,zero_le->C8,strongRecOn->DB
open Option renaming map_eq_some_iff->BL,map_some->B6,bind_eq_some_iff->CB,bind_assoc->CG,bind_some->CI,bind_none->Cg,getD_some->C7
open Option.some renaming injEq->BD,inj->C9
open Prod.mk renaming injEq->BV
namespace Go.Proofs.YtaegajachoklkaaGreatEv
open Go Go.RowKit
section
variable {P:Program} {V:Env} {Γ:List Ctr} {T:TypeId->TI} {st st':St} {o:Oper} {R:Type} {κ:Upd->Option R} {r:R}
theorem gz {α β:Type}(b:Bool)(x y:Option α)(f:α->Option β):(bif b then x else y).bind f=bif b then x.bind f else y.bind f:=by cases b <;> rfl
theorem ww {b:Option (Bool×Nat×Nat)}{U:Upd}:j0 st b U κ=(j0 st b U some).bind κ:=by
 unfold j0;split
 ·split
  ·simp only[CG];congr 1;funext y;split <;> rfl
  ·rfl
 ·rfl
theorem wz {d:Nat}{f:FuncId}{xs:List (aI×List Leaf)}:jr Γ st d f xs κ=(jr Γ st d f xs some).bind κ:=by
 unfold jr;cases lT Γ f with
 |none=>rfl
 |some c =>
  simp only[gy,CG];congr 1;funext u;cases oI Γ (ac u.1 st) c.ps u.2.1 with
  |none=>rfl
  |some g =>
   simp only[gz,CG,Cg];congr 2;funext y;exact ww
theorem mG {z:St}{H:Upd}{d:Nat}{E:TypeId}{e:Ty}{u:Nat}{p:Bool}{xs:List e.den}{ks:List (Nat×Nat)}{y:Leaf}:dX st z H d E e u p xs ks y κ=(dX st z H d E e u p xs ks y some).bind κ:=by
 unfold dX;split
 ·simp only[gz,Cg,CI]
 ·rfl
theorem tI {z:Upd}{d:Nat}{E:TypeId}{e:Ty}{u:Nat}{x y:Leaf}:ew st z d E e u x y κ=(ew st z d E e u x y some).bind κ:=by
 unfold ew;split
 ·split
  ·rw[gz,<- mG];rfl
  ·rfl
 ·exact mG
 ·rfl
theorem tJ {d:Nat}{E:TypeId}{e:Ty}{u:Nat}{x y:Leaf}:iu st d E e u x y κ=(iu st d E e u x y some).bind κ:=by
 unfold iu;simp only[gY,gz,CG,<- tI]
theorem nr {r j i off n:Nat}{p:Bool}{E:TypeId}{e:Ty}{xs:List e.den}{h:Option (Nat×Nat)}{ls:List Leaf}:gE st r j i off n p E e xs h ls κ=(gE st r j i off n p E e xs h ls some).bind κ:=by
 unfold gE;simp only[CG];congr 1;funext u;split
 ·rw[gz];congr 1;split
  ·rfl
  ·simp only[gz,CI]
 ·rfl
theorem tK:act Γ T o st κ=(act Γ T o st some).bind κ:=by
 cases u:o.op <;> simp only[act,wrU,u] <;> (repeat' split) <;>
  (try simp only[gz,CG,Cg,CI]) <;> (try rfl) <;> (try exact wz) <;> (try (rw[tJ];done)) <;> (try (rw[nr];done)) <;> (try (rw[<- nr];done))
theorem bm {q:Nat}(h:st' q=st q):∀ (U:Upd),ac U st' q=ac U st q
 |[]=>h
 |(r,c)::U=>by simp only[ac,bm h U]
theorem dW {x:Operand}(h:∀ t,x=.tmp t->st' t=st t):au st' x=au st x:=by
 cases x with
 |tmp t=>simp only[au,h t rfl]
 |_=>rfl
theorem dG {x:Operand}(h:∀ t,x=.tmp t->st' t=st t):one st' x=one st x:=by
 unfold one;rw[dW h]
theorem lp:∀ (u y:List Leaf),aw (u++y)=aw u++aw y
 |[],_=>rfl
 |l::u,y=>by cases l <;> simp[aw,lp u y]
theorem aL (l:Leaf)(ls:List Leaf):aw (l::ls)=aw [l]++aw ls:=lp [l] ls
theorem fI:∀ (n:Nat) (ls:List Leaf) (q:Nat),q∈aw (ls.drop n)->q∈aw ls
 |0,_,_,h=>h
 |n+1,[],_,h=>h
 |n+1,l::ls,q,h=>by rw[aL];exact BH _ (fI n ls q h)
theorem rF:∀ (n:Nat) (ls:List Leaf) (q:Nat),q∈aw (ls.take n)->q∈aw ls
 |0,_,_,h=>by simp[aw]at h
 |n+1,[],_,h=>by simp[aw]at h
 |n+1,l::ls,q,h=>by
  rw[List.take_succ_cons,aL,BE]at h;rw[aL,BE];exact h.imp id (rF n ls q)
theorem qL:∀ {ls:List Leaf} {k:Nat} {l:Leaf},ls[k]?=some l->∀ q∈aw [l],q∈aw ls
 |[],_,_,h,_,_=>by simp at h
 |y::ls,0,l,h,q,u=>by simp at h;subst h;rw[aL];exact BG _ u
 |y::ls,k+1,l,h,q,u=>by rw[aL];exact BH _ (qL (by simpa using h) q u)
theorem jN {ks:List (Nat×Nat×Nat)}{ep:Nat}(h:∀ q∈EPO::ks.map (·.1),st' q=st q):br st' ks ep=br st ks ep:=by
 unfold br;rw[h EPO (BJ ..)];congr 1;induction ks with
 |nil=>rfl
 |cons k ks y =>
  rw[Cd,Cd,y (λq u=>h q (by simp at u ⊢;rcases u with u|u;exact .inl u;exact .inr (.inr u))),h k.1 (by simp)]
theorem iq {p:Bool}{ks:List (Nat×Nat×Nat)}{ep:Nat}{u:Option (Nat×Nat×Nat)}{E:TypeId}{e:Ty}{xs:List e.den}:aw [.nal p ks ep u E e xs]=EPO::ks.map (·.1):=by simp[aw]
theorem vm {p:Bool}{ks:List (Nat×Nat×Nat)}{ep:Nat}{a:Ty}{x:a.den}{off:Nat}:aw [.np p ks ep a x off]=EPO::ks.map (·.1):=by simp[aw]
theorem cj {l:Leaf}(h:∀ q∈aw [l],st' q=st q):aC st' l=aC st l:=by
 cases l with
 |al r j v=>simp only[aC,h r (by simp[aw])]
 |nal p y ep u E e z=>rw[iq]at h;simp only[aC,jN h]
 |_=>rfl
theorem jY:∀ (a:Ty) (ls:List Leaf) (p:Bool) (x:a.den) (u:List Leaf),bc st a ls=some (p,x,u)->∃ I,ls=I++u
 |.int k,ls,p,x,u,h=>by
  simp only[bc]at h;split at h
  ·split at h
   ·simp at h;exact⟨[_],by rw[<- h.2.2];rfl⟩
   ·cases h
  ·cases h
 |.bool,ls,p,x,u,h=>by
  simp only[bc]at h;split at h
  ·simp at h;exact⟨[_],by rw[<- h.2.2];rfl⟩
  ·cases h
 |.str,ls,p,x,u,h=>by
  simp only[bc]at h;split at h
  ·simp at h;exact⟨[_],by rw[<- h.2.2];rfl⟩
  ·cases h
 |.unit,ls,p,x,u,h=>by
  simp only[bc,BD,BV]at h;exact⟨[],by rw[h.2.2];rfl⟩
 |.hdr,ls,p,x,u,h=>by
  simp only[bc]at h;split at h
  ·split at h
   ·simp at h;exact⟨[_],by rw[<- h.2.2];rfl⟩
   ·cases h
  ·cases h
 |.pair a b,ls,p,x,u,h=>by
  simp only[bc]at h;split at h
  ·rename_i q y H M;split at h
   ·rename_i O z J hb;simp at h;obtain⟨I,Z⟩:=jY a ls q y H M;obtain⟨X,Y⟩:=jY b H O z J hb;exact⟨I++X,by rw[Z,Y,h.2.2,CA]⟩
   ·cases h
  ·cases h
 |.list m E e,ls,p,x,u,h=>by
  simp only[bc]at h;split at h
  ·split at h
   ·simp at h;exact⟨[_],by rw[<- h.2.2];rfl⟩
   ·cases h
  ·cases h
theorem gA:∀ (a:Ty) (ls:List Leaf),(∀ q∈aw ls,st' q=st q)->bc st' a ls=bc st a ls
 |.int k,ls,h=>rfl
 |.bool,ls,h=>rfl
 |.str,ls,h=>rfl
 |.unit,ls,h=>rfl
 |.hdr,ls,h=>by
  cases ls with
  |nil=>rfl
  |cons l ls =>
   simp only[bc];rw[cj (l:=l) (λq u=>h q (by rw[aL];exact BG _ u))]
 |.pair a b,ls,h=>by
  simp only[bc,gA a ls h];cases I:bc st a ls with
  |none=>rfl
  |some x =>
   obtain⟨p,y,z⟩:=x;obtain⟨J,H⟩:=jY a ls p y z I;simp only;rw[gA b z (λq u=>h q (by rw[H,lp];exact BH _ u))]
 |.list m E e,ls,h=>by
  cases ls with
  |nil=>rfl
  |cons l ls =>
   simp only[bc];rw[cj (l:=l) (λq u=>h q (by rw[aL];exact BG _ u))]
theorem eO {a:Ty}{ls:List Leaf}(h:∀ q∈aw ls,st' q=st q):cP st' a ls=cP st a ls:=by
 unfold cP;rw[gA a ls h]
theorem nu {e:Ty}:∀ (n:Nat) (ls:List Leaf),(∀ q∈aw ls,st' q=st q)->fH st' e n ls=fH st e n ls
 |0,_,_=>rfl
 |n+1,ls,h=>by
  simp only[fH,eO (ls:=ls.take e.cells) (λq u=>h q (rF _ _ q u)),nu n (ls.drop e.cells) (λq u=>h q (fI _ _ q u))]
theorem jl:∀ {ls:List Leaf},(∀ q∈aw ls,st' q=st q)->bz st' ls=bz st ls
 |[],_=>rfl
 |l::ls,h=>by
  have z:=jl (ls:=ls) (λq u=>h q (by rw[aL];exact BH _ u));cases l with
  |al r j v=>simp only[bz,z,cj (l:=.al r j v) (λq u=>h q (by rw[aL];exact BG _ u))]
  |nal p H ep y E e I=>simp only[bz,z,cj (l:=.nal p H ep y E e I) (λq u=>h q (by rw[aL];exact BG _ u))]
  |_=>simpa[bz]using z
theorem pa:∀ {ls:List Leaf},(∀ q∈aw ls,st' q=st q)->b6 st' ls=b6 st ls
 |[],_=>rfl
 |l::ls,h=>by
  have y:=pa (ls:=ls) (λq u=>h q (by rw[aL];exact BH _ u));cases l with
  |al r j v=>simp only[b6,y,cj (l:=.al r j v) (λq u=>h q (by rw[aL];exact BG _ u))]
  |_=>simpa[b6]using y
theorem qM:∀ {ls:List Leaf},(∀ q∈aw ls,st' q=st q)->dz st' ls=dz st ls
 |[],_=>rfl
 |l::ls,h=>by
  have y:=qM (ls:=ls) (λq z=>h q (by rw[aL];exact BH _ z));cases l with
  |nal p H ep u E e I =>
   cases u with
   |none=>simp only[dz,y,cj (l:=.nal p H ep none E e I) (λq z=>h q (by rw[aL];exact BG _ z))]
   |some x=>simpa[dz]using y
  |_=>simpa[dz]using y
theorem pb {ls:List Leaf}(h:∀ q∈aw ls,st' q=st q):dK st' ls=dK st ls:=by
 unfold dK;induction ls with
 |nil=>rfl
 |cons l ls y =>
  rw[B4,B4,y (λq u=>h q (by rw[aL];exact BH _ u))];unfold gi;rw[cj (λq u=>h q (by rw[aL];exact BG _ u))]
theorem eE:∀ {ls:List Leaf} {x:Nat×Nat},x∈bz st ls->x.1∈aw ls
 |[],_,h=>by simp[bz]at h
 |l::ls,x,h=>by
  cases l with
  |al r j v =>
   simp only[bz,BE]at h;rcases h with h|h
   ·split at h
    ·simp at h;subst h;simp[aw]
    ·simp at h
   ·rw[aL];exact BH _ (eE h)
  |nal p z ep u E e H =>
   simp only[bz,BE]at h;rcases h with h|h
   ·split at h
    ·obtain⟨k,y,rfl⟩:=BO.1 h;rw[aL,iq];exact BG _ (BI _ (BO.2 ⟨k,y,rfl⟩))
    ·simp at h
   ·rw[aL];exact BH _ (eE h)
  |_=>(simp only[bz]at h;rw[aL];exact BH _ (eE h))
theorem jm:∀ {ls:List Leaf} {x:Nat×Nat},x∈b6 st ls->x.1∈aw ls
 |[],_,h=>by simp[b6]at h
 |l::ls,x,h=>by
  cases l with
  |al r j v =>
   simp only[b6,BE]at h;rcases h with h|h
   ·split at h
    ·simp at h;subst h;simp[aw]
    ·simp at h
   ·rw[aL];exact BH _ (jm h)
  |_=>(simp only[b6]at h;rw[aL];exact BH _ (jm h))
theorem hM:∀ {ls:List Leaf} {x:Nat×Nat},x∈dz st ls->x.1∈aw ls
 |[],_,h=>by simp[dz]at h
 |l::ls,x,h=>by
  cases l with
  |nal p H ep u E e I =>
   cases u with
   |none =>
    simp only[dz,BE]at h;rcases h with h|h
    ·split at h
     ·obtain⟨k,z,rfl⟩:=BO.1 h;rw[aL,iq];exact BG _ (BI _ (BO.2 ⟨k,z,rfl⟩))
     ·simp at h
    ·rw[aL];exact BH _ (hM h)
   |some y=>(simp only[dz]at h;rw[aL];exact BH _ (hM h))
  |_=>(simp only[dz]at h;rw[aL];exact BH _ (hM h))
theorem ir:∀ {ks:List (Nat×Nat)},(∀ x∈ks,st' x.1=st x.1)->aN st' ks=aN st ks
 |[],_=>rfl
 |(r,j)::ks,h=>by
  simp only[aN,ir (ks:=ks) (λx u=>h x (BI _ u)),bm (h (r,j) (BJ ..))]
theorem ko:∀ {ks:List (Nat×Nat)},(∀ x∈ks,st' x.1=st x.1)->aE st' ks=aE st ks
 |[],_=>rfl
 |(r,j)::ks,h=>by
  simp only[aE,ko (ks:=ks) (λx u=>h x (BI _ u)),bm (h (r,j) (BJ ..))]
theorem tL {ls:List Leaf}(h:∀ q∈aw ls,st' q=st q):mvU st' ls=mvU st ls:=by
 unfold mvU;rw[qM h,pa h,ko (λx u=>h _ (hM u))];simp only;rw[ir (λx u=>bm (h _ (jm u)) _)]
theorem qN {ls:List Leaf}(h:∀ q∈aw ls,st' q=st q):hY st' ls=hY st ls:=by
 unfold hY;rw[qM h,pa h]
theorem jn:∀ (a:Ty) (ls:List Leaf),(∀ q∈aw ls,st' q=st q)->take st' a ls=take st a ls
 |.int k,ls,h=>by simp only[take,gA (.int k) ls h]
 |.bool,ls,h=>by simp only[take,gA .bool ls h]
 |.str,ls,h=>by simp only[take,gA .str ls h]
 |.unit,ls,h=>rfl
 |.hdr,ls,h=>by simp only[take,gA .hdr ls h]
 |.pair a b,ls,h=>by
  simp only[take,jn a ls h];cases z:take st a ls with
  |none=>rfl
  |some x =>
   have H:=kn.take_rest a ls x z;simp only;rw[jn b x.rest (λq y=>h q (fI a.cells ls q (by rw[<- H];exact y)))]
 |.list m E e,ls,h=>by
  cases ls with
  |nil=>rfl
  |cons l ls =>
   have u:∀ q∈aw [l],st' q=st q:=λq y=>h q (by rw[aL];exact BG _ y)
   simp only[take,cj u,jl u];congr 1;split
   ·rename_i r j v;rw[cj u]
   ·rfl
   ·rfl
theorem gQ {a:Ty}{ls:List Leaf}(h:∀ q∈aw ls,st' q=st q):ch st' a ls=ch st a ls:=by
 unfold ch;rw[jn a ls h]
theorem nU:∀ (a:Ty) (ls:List Leaf) (t:cI a.den),take st a ls=some t->(∀ z∈t.frz,z.1∈aw ls)/\∀ z∈t.kill,z.1∈aw ls
 |.int k,ls,t,h=>by simp only[take,BL]at h;obtain⟨_,_,rfl⟩:=h;exact⟨by simp,by simp⟩
 |.bool,ls,t,h=>by simp only[take,BL]at h;obtain⟨_,_,rfl⟩:=h;exact⟨by simp,by simp⟩
 |.str,ls,t,h=>by simp only[take,BL]at h;obtain⟨_,_,rfl⟩:=h;exact⟨by simp,by simp⟩
 |.hdr,ls,t,h=>by simp only[take,BL]at h;obtain⟨_,_,rfl⟩:=h;exact⟨by simp,by simp⟩
 |.unit,ls,t,h=>by simp only[take,BD]at h;subst h;exact⟨by simp,by simp⟩
 |.pair a b,ls,t,h=>by
  simp only[take]at h;split at h
  ·rename_i x M;split at h
   ·rename_i y Z;simp only[BD]at h;subst h;have Y:=kn.take_rest a ls x M;obtain⟨h1,X⟩:=nU a ls x M;obtain⟨H,I⟩:=nU b x.rest y Z;rw[Y]at H I;exact⟨λz u=>(BE.1 u).elim (h1 z) (λu=>fI _ _ _ (H z u)),λz u=>(BE.1 u).elim (X z) (λu=>fI _ _ _ (I z u))⟩
   ·cases h
  ·cases h
 |.list m E e,ls,t,h=>by
  cases ls with
  |nil=>simp[take]at h
  |cons l ls =>
   have J:∀ q∈aw [l],q∈aw (l::ls):=λq O=>by rw[aL];exact BG _ O
   cases m with
   |false =>
    simp only[take,cond_false]at h;split at h
    ·simp only[BD]at h;subst h;exact⟨λz u=>J _ (eE u),by simp⟩
    ·cases h
   |true =>
    simp only[take,cond_true]at h;split at h
    ·split at h
     ·simp only[BL]at h;obtain⟨_,_,rfl⟩:=h;exact⟨by simp,λz u=>by simp at u;subst u;exact J _ (by simp[aw])⟩
     ·cases h
    ·simp only[BD]at h;subst h;exact⟨by simp,by simp⟩
    ·cases h
theorem i9 {a:Ty}{ls:List Leaf}{t:cI a.den}(h:ch st a ls=some t):(∀ z∈t.frz,z.1∈aw ls)/\∀ z∈t.kill,z.1∈aw ls:=by
 unfold ch at h;split at h
 ·rename_i p x f k u;simp only[BD]at h;subst h;exact nU a ls _ u
 ·cases h
theorem kg:∀ {off n:Nat} (a:Ty) (pos:Nat) (x:a.den) (ls:List Leaf) (t:cI a.den),de st off n a pos x ls=some t->∃ k,t.rest=ls.drop k
 |off,n,.pair a b,pos,x,ls,t,h=>by
  simp only[de]at h;split at h
  ·rename_i u z;split at h
   ·rename_i v H;simp only[BD]at h;subst h;obtain⟨J,M⟩:=kg a pos x.1 ls u z;obtain⟨y,I⟩:=kg b (pos+a.cells) x.2 u.rest v H;exact⟨J+y,by show v.rest=_;rw[I,M,Cm]⟩
   ·cases h
  ·cases h
 |off,n,.unit,pos,x,ls,t,h=>by simp only[de,BD]at h;subst h;exact⟨0,rfl⟩
 |off,n,.hdr,pos,x,ls,t,h=>by simp[de]at h
 |off,n,.int k,pos,x,ls,t,h=>sc (a:=.int k) h
 |off,n,.bool,pos,x,ls,t,h=>sc (a:=.bool) h
 |off,n,.str,pos,x,ls,t,h=>sc (a:=.str) h
 |off,n,.list m E e,pos,x,ls,t,h=>sc (a:=.list m E e) h
where
 sc {a:Ty} {b:Bool} {x:a.den} {ls:List Leaf} {t:cI a.den} (h:(bif b then take st a ls else some ⟨false,x,[],[],ls⟩)=some t):∃ k,t.rest=ls.drop k:=by
  cases b with
  |true=>exact⟨_,kn.take_rest a ls t h⟩
  |false=>simp only[cond_false,BD]at h;subst h;exact⟨0,rfl⟩
theorem pc:∀ {off n:Nat} (a:Ty) (pos:Nat) (x:a.den) (ls:List Leaf),(∀ q∈aw ls,st' q=st q)->de st' off n a pos x ls=de st off n a pos x ls
 |off,n,.pair a b,pos,x,ls,h=>by
  simp only[de,pc a pos x.1 ls h];cases z:de st off n a pos x.1 ls with
  |none=>rfl
  |some u =>
   obtain⟨k,e⟩:=kg a pos x.1 ls u z;simp only;rw[pc b (pos+a.cells) x.2 u.rest (λq y=>h q (fI k ls q (by rw[<- e];exact y)))]
 |off,n,.unit,pos,x,ls,h=>rfl
 |off,n,.hdr,pos,x,ls,h=>rfl
 |off,n,.int k,pos,x,ls,h=>by simp only[de,jn (.int k) ls h]
 |off,n,.bool,pos,x,ls,h=>by simp only[de,jn .bool ls h]
 |off,n,.str,pos,x,ls,h=>by simp only[de,jn .str ls h]
 |off,n,.list m E e,pos,x,ls,h=>by simp only[de,jn (.list m E e) ls h]
theorem pd:∀ {off n:Nat} (a:Ty) (pos:Nat) (x:a.den) (ls:List Leaf) (t:cI a.den),de st off n a pos x ls=some t->(∀ z∈t.frz,z.1∈aw ls)/\∀ z∈t.kill,z.1∈aw ls
 |off,n,.pair a b,pos,x,ls,t,h=>by
  simp only[de]at h;split at h
  ·rename_i u J;split at h
   ·rename_i v O;simp only[BD]at h;subst h;obtain⟨k,e⟩:=kg a pos x.1 ls u J;obtain⟨X,M⟩:=pd a pos x.1 ls u J;obtain⟨H,I⟩:=pd b (pos+a.cells) x.2 u.rest v O;rw[e]at H I;exact⟨λz y=>(BE.1 y).elim (X z) (λy=>fI _ _ _ (H z y)),λz y=>(BE.1 y).elim (M z) (λy=>fI _ _ _ (I z y))⟩
   ·cases h
  ·cases h
 |off,n,.unit,pos,x,ls,t,h=>by simp only[de,BD]at h;subst h;exact⟨by simp,by simp⟩
 |off,n,.hdr,pos,x,ls,t,h=>by simp[de]at h
 |off,n,.int k,pos,x,ls,t,h=>sc (a:=.int k) h
 |off,n,.bool,pos,x,ls,t,h=>sc (a:=.bool) h
 |off,n,.str,pos,x,ls,t,h=>sc (a:=.str) h
 |off,n,.list m E e,pos,x,ls,t,h=>sc (a:=.list m E e) h
where
 sc {a:Ty} {b:Bool} {x:a.den} {ls:List Leaf} {t:cI a.den} (h:(bif b then take st a ls else some ⟨false,x,[],[],ls⟩)=some t):(∀ z∈t.frz,z.1∈aw ls)/\∀ z∈t.kill,z.1∈aw ls:=by
  cases b with
  |true=>exact nU a ls t h
  |false=>simp only[cond_false,BD]at h;subst h;exact⟨by simp,by simp⟩
theorem vn {U:Upd}{d:Nat}{sh:aI}{ls:List Leaf}(h:st' d=st d):cg st' U d sh ls=cg st U d sh ls:=by
 simp only[cg,bm h]
theorem rG:∀ {xs:List Operand} {t:Nat},Operand.tmp t∈xs->t∈iv xs
 |[],_,h=>by simp at h
 |x::xs,t,h=>by
  rcases BR.1 h with rfl|h
  ·simp[iv]
  ·have u:=rG h;cases x <;> simp[iv,u]
theorem nv (t n:Nat):∀ (j:Nat) (ls:List Leaf) (q:Nat),q∈aw (bG t n j ls)->q=t\/q∈aw ls
 |_,[],_,h=>by simp[bG,aw]at h
 |j,l::ls,q,h=>by
  simp only[bG]at h;rw[aL,BE]at h;rw[aL,BE];rcases h with h|h
  ·cases l with
   |own p u E e y=>simp[lQ,aw]at h;exact .inl h
   |_=>exact .inr (.inl h)
  ·exact (nv t n (j+1) ls q h).imp id .inr
theorem lq:∀ (u y:List Leaf),ay (u++y)=ay u++ay y
 |[],_=>rfl
 |l::u,y=>by cases l <;> simp[ay,lq u y]
theorem dx (l:Leaf)(ls:List Leaf):ay (l::ls)=ay [l]++ay ls:=lq [l] ls
theorem fJ:∀ {ls:List Leaf} {q:Nat},q∈aw ls->q∈ay ls
 |[],_,h=>by simp[aw]at h
 |l::ls,q,h=>by
  rw[aL,BE]at h;rw[dx,BE];rcases h with h|h
  ·left;cases l with
   |nal p y ep u E e z=>simp[aw]at h;simpa[ay]using h
   |np p y ep a x off=>simp[aw]at h;simpa[ay]using h
   |_=>simp[aw]at h <;> simp[ay,h]
  ·exact .inr (fJ h)
theorem ny (t n:Nat):∀ (j:Nat) (ls:List Leaf) (q:Nat),q∈ay (bG t n j ls)->q=t\/q∈ay ls
 |_,[],_,h=>by simp[bG,ay]at h
 |j,l::ls,q,h=>by
  simp only[bG]at h;rw[dx,BE]at h;rw[dx,BE];rcases h with h|h
  ·cases l with
   |own p u E e y=>simp[lQ,ay]at h;exact .inl h
   |_=>exact .inr (.inl h)
  ·exact (ny t n (j+1) ls q h).imp id .inr
theorem rH {x:Operand}{q:Nat}(h:q∈aw (au st x).2):∃ t,x=.tmp t/\(q=t\/q∈aw (st t).ls):=by
 cases x with
 |tmp t =>
  simp only[au]at h;cases y:Ci t GH with
  |false=>simp[y,aw]at h
  |true=>simp only[y,cond_true]at h;exact⟨t,rfl,nv _ _ _ _ _ h⟩
 |const v =>
  simp only[au]at h;split at h
  ·rename_i l u;unfold is at u;split at u <;> simp at u <;> subst u <;> simp[aw]at h
  ·simp[aw]at h
 |func f=>simp[au,aw]at h
 |global g=>simp[au,aw]at h
theorem rI {x:Operand}{q:Nat}(h:q∈ay (au st x).2):∃ t,x=.tmp t/\(q=t\/q∈ay (st t).ls):=by
 cases x with
 |tmp t =>
  simp only[au]at h;cases y:Ci t GH with
  |false=>simp[y,ay]at h
  |true=>simp only[y,cond_true]at h;exact⟨t,rfl,ny _ _ _ _ _ h⟩
 |const v =>
  simp only[au]at h;split at h
  ·rename_i l u;unfold is at u;split at u <;> simp at u <;> subst u <;> simp[ay]at h
  ·simp[ay]at h
 |func f=>simp[au,ay]at h
 |global g=>simp[au,ay]at h
theorem qO {x:Operand}{l:Leaf}(h:one st x=l)(u:l≠.dead):(au st x).2=[l]:=by
 unfold one at h;split at h
 ·rename_i z y;rw[y,h]
 ·exact absurd h.symm u
theorem jo {x:Operand}{q:Nat}(h:q∈aw [one st x]):q∈aw (au st x).2:=by
 by_cases u:one st x=.dead
 ·rw[u]at h;simp[aw]at h
 ·rw[qO rfl u];exact h
theorem tM {x:Operand}{q:Nat}(h:q∈ay [one st x]):q∈ay (au st x).2:=by
 by_cases u:one st x=.dead
 ·rw[u]at h;simp[ay]at h
 ·rw[qO rfl u];exact h
def jy:Leaf->Bool×Leaf
 |.own _ _ _ e u=>(true,.ep 0 0 0 e.cells u.length 0)
 |l=>(false,l)
def bK (c:bR):Nat×aI×List (Bool×Leaf):=(c.ver,c.sh,c.ls.map jy)
theorem tN {l l':Leaf}(h:jy l'=jy l):l'=l\/∃ (p p':Bool) (z y:Option (Nat×Nat)) (E E':TypeId) (e e':Ty) (xs:List e.den) (u:List e'.den),l=.own p z E e xs/\l'=.own p' y E' e' u/\e'.cells=e.cells/\u.length=xs.length:=by
 cases l <;> cases l' <;> simp only[jy,BV,CW,reduceCtorEq,false_and,and_false,true_and,Leaf.ep.injEq,Bool.true_eq_false]at h <;>
  first
  |exact .inr ⟨_,_,_,_,_,_,_,_,_,_,rfl,rfl,h.1,h.2.1⟩
  |exact .inr ⟨_,_,_,_,_,_,_,_,_,_,rfl,rfl,h.1,h.2⟩
  |exact .inl rfl
  |exact .inl (by rw[h])
  |exact .inl h
  |(obtain⟨rfl,rfl,rfl,rfl,rfl,rfl⟩:=h;exact .inl rfl)
theorem qc (t n:Nat):∀ (j:Nat) (ls u:List Leaf),u.map jy=ls.map jy->bG t n j u=bG t n j ls
 |_,[],[],_=>rfl
 |_,[],_::_,h=>by simp at h
 |_,_::_,[],h=>by simp at h
 |j,l::ls,Y::u,h=>by
  simp only[B4,Cj]at h;simp only[bG,qc t n (j+1) ls u h.2];rcases tN h.1 with e|⟨p,X,J,z,E,Z,e,O,M,y,I,H,_,_⟩
  ·rw[e]
  ·rw[I,H];rfl
theorem yb {x:Operand}(h:∀ t,x=.tmp t->bK (st' t)=bK (st t)):au st' x=au st x:=by
 cases x with
 |tmp t =>
  have:=h t rfl;simp only[bK,BV]at this;simp only[au,this.1,this.2.1,qc _ _ _ _ _ this.2.2]
 |_=>rfl
theorem zQ {x:Operand}(h:∀ t,x=.tmp t->bK (st' t)=bK (st t)):one st' x=one st x:=by
 unfold one;rw[yb h]
theorem yc {c u:bR}(h:bK u=bK c)(j:Nat):jy (u.ls.getD j .dead)=jy (c.ls.getD j .dead):=by
 simp only[bK,BV]at h;have:=congrArg (λl=>l[j]?) h.2.2;simp only[Cz]at this;rw[BS,BS];generalize u.ls[j]?=a at this;generalize c.ls[j]?=b at this
 match a,b,this with
 |none,none,_=>rfl
 |some x,some y,h=>exact C9 h
theorem rJ (l:Leaf):lz l=(jy l).1:=by cases l <;> rfl
theorem zu {ks:List (Nat×Nat×Nat)}{ep:Nat}(h:∀ q∈EPO::ks.map (·.1),bK (st' q)=bK (st q)):br st' ks ep=br st ks ep:=by
 unfold br;have z:=h EPO (BJ ..);simp only[bK,BV]at z;rw[z.1];congr 1;induction ks with
 |nil=>rfl
 |cons k ks H =>
  have y:=h k.1 (by simp);have I:(st' k.1).ver=(st k.1).ver:=by simp only[bK,BV]at y;exact y.1
  rw[Cd,Cd,H (λq u=>h q (by simp at u ⊢;rcases u with u|u;exact .inl u;exact .inr (.inr u))),rJ,rJ,yc y,I]
end
section
variable {P:Program} {V:Env} {Γ:List Ctr} {T:TypeId->TI} {st st':St} {o:Oper} {R:Type} {κ:Upd->Option R} {r:R}
theorem tO {d:Nat}(u:o.dst=some d)(h:∀ q∈fy st o,st' q=st q):st' d=st d/\st' (B0+d)=st (B0+d):=by
 refine⟨h d ?_,h (B0+d) ?_⟩ <;> simp[fy,zD,u]
theorem lr {ls:List Leaf}(h:∀ q∈aw ls,st' q=st q):∀ x∈bz st ls,st' x.1=st x.1:=λx u=>h _ (eE u)
theorem qd {u:List (Nat×Nat×Bool)}:∀ (ps:List (Nat×Operand)) (ls:List Leaf),(∀ x∈ps,∀ t,x.2=.tmp t->st' t=st t)->fw st' u ps ls=fw st u ps ls
 |[],_,_=>rfl
 |(i,x)::ps,ls,h=>by
  simp only[fw,dW (h (i,x) (BJ ..))];split
  ·rw[qd ps _ (λy z=>h y (BI _ z))]
  ·rfl
theorem oy {e:Ty}:∀ (ps:List (Nat×Operand)) (k:Nat),(∀ x∈ps,(∀ t,x.2=.tmp t->st' t=st t)/\∀ q∈aw (au st x.2).2,st' q=st q)->eG st' e k ps=eG st e k ps
 |[],_,_=>rfl
 |(i,x)::ps,k,h=>by
  have u:=h (i,x) (BJ ..);simp only[eG,dW u.1,gQ u.2,oy ps (k+1) (λy z=>h y (BI _ z))]
theorem oz {e:Ty}:∀ (ps:List (Nat×Operand)) (k:Nat) (u:cI (List e.den)),eG st e k ps=some u->∀ z,z∈u.frz\/z∈u.kill->∃ x∈ps,z.1∈aw (au st x.2).2
 |[],_,_,h=>by simp only[eG,BD]at h;subst h;simp
 |(i,x)::ps,k,u,h=>by
  simp only[eG]at h;cases O:BM i k&&decide ((au st x).1=bi e.isAgg) with
  |false=>simp[O]at h
  |true =>
   simp only[O,cond_true]at h;split at h
   ·rename_i t1 M Z J;simp only[BD]at h;subst h;intro z H;obtain⟨Y,p2⟩:=i9 Z;have I:(z∈t1.frz\/z∈t1.kill)\/(z∈M.frz\/z∈M.kill):=by
     rcases H with H|H <;> rcases BE.1 H with H|H
     ·exact .inl (.inl H)
     ·exact .inr (.inl H)
     ·exact .inl (.inr H)
     ·exact .inr (.inr H)
    rcases I with H|H
    ·exact⟨(i,x),BJ ..,H.elim (Y z) (p2 z)⟩
    ·obtain⟨y,hy,X⟩:=oz ps (k+1) M J z H;exact⟨y,BI _ hy,X⟩
   ·cases h
theorem nz {x:Option Operand}{n:Int}(h:∀ y,x=some y->∀ t,y=.tmp t->st' t=st t):dl st' x n=dl st x n:=by
 cases x with
 |none=>rfl
 |some y=>simp only[dl,dG (h y rfl)]
theorem vo:∀ (xs:List Operand) (u:Option (List Nat)),(∀ x∈xs,∀ t,x=.tmp t->st' t=st t) ->
  xs.foldl (λ (u:Option (List Nat)) x=>u.bind λl=>match one st' x with|.bp b 0=>some (l++[b])|_=>none) u =
  xs.foldl (λ (u:Option (List Nat)) x=>u.bind λl=>match one st x with|.bp b 0=>some (l++[b])|_=>none) u
 |[],_,_=>rfl
 |x::xs,u,h=>by
  simp only[DA,dG (h x (BJ ..))];exact vo xs _ (λy z=>h y (BI _ z))
theorem qe {l:Leaf}(y:st' TMP=st TMP)(H:st' EPO=st EPO)(h:∀ q∈aw [l],st' q=st q):ck st' l=ck st l:=by
 cases l with
 |nal p I ep u E e J =>
  rw[iq]at h;simp only[ck,jN h,y,H];congr 1
  match I,u,h with
  |[(r,j,n)],some (i,M,off),h =>
   have z:=h r (by simp);simp only[z]
  |[(r,j,n)],none,_=>rfl
  |[],_,_=>rfl
  |_::_::_,_,_=>rfl
 |_=>rfl
theorem oA {l l':Leaf}{U:Upd}(h:ck st l=some (U,l')):∃ n,l'=.al TMP 0 n/\∀ q,q≠TMP->∀ z∈ay (ac U st q).ls,z∈ay (st q).ls:=by
 cases l with
 |nal p ks ep a0 E e X =>
  simp only[ck]at h;cases H:br st ks ep with
  |false=>simp[H]at h
  |true =>
   rw[H]at h;simp only[cond_true]at h;split at h
   ·rename_i r j n0 i sz off;split at h
    ·rename_i Y E' O M hg;cases hb:!BM r TMP&&!BM r EPO&&BM sz O.cells with
     |false=>simp[hb]at h
     |true =>
      rw[hb]at h;simp only[cond_true]at h;split at h
      ·split at h
       ·rename_i y _ _ _ _ _;simp only[BD,BV]at h;obtain⟨rfl,rfl⟩:=h;refine⟨_,rfl,λq hq z u=>?_⟩;rw[aP]at u;rcases aj r q ⟨(st r).ver,(st r).sh,aU (st r).ls j (.own Y (some (i,off)) E' O M)⟩ (ac [(TMP,⟨(st TMP).ver+1,.one,[.own (Y&&O.shy) none _ _ _]⟩),(EPO,bV (st EPO))] st) with ⟨rfl,J⟩|⟨_,J⟩
        ·rw[J]at u;exact refs_set u
        ·rw[J,aP,aJ hq]at u;rcases aj EPO q (bV (st EPO)) st with ⟨rfl,Z⟩|⟨_,Z⟩ <;> rw[Z]at u <;> exact u
       ·cases h
      ·cases h
    ·cases h
   ·cases h
 |_=>simp[ck]at h
where
 refs_set {I:List Leaf} {j z:Nat} {p:Bool} {hh:Option (Nat×Nat)} {E:TypeId} {e:Ty} {X:List e.den} (h:z∈ay (aU I j (.own p hh E e X))):z∈ay I:=by
  unfold aU at h;induction I generalizing j with
  |nil=>simpa using h
  |cons l I ih =>
   cases j with
   |zero =>
    rw[List.set_cons_zero,dx,BE]at h;rw[dx,BE];rcases h with h|h
    ·simp[ay]at h
    ·exact .inr h
   |succ j =>
    rw[Cw,dx,BE]at h;rw[dx,BE];exact h.imp id ih
theorem uH {l l':Leaf}{U:Upd}(h:ck st l=some (U,l')):ay (ac U st TMP).ls=[]:=by
 cases l with
 |nal p O ep H E e X =>
  simp only[ck]at h;cases u:br st O ep with
  |false=>simp[u]at h
  |true =>
   rw[u]at h;simp only[cond_true]at h;split at h
   ·rename_i r j n0 i M off;split at h
    ·rename_i Y E' J I Z;cases z:!BM r TMP&&!BM r EPO&&BM M J.cells with
     |false=>simp[z]at h
     |true =>
      rw[z]at h;simp only[cond_true]at h;have y:TMP≠r:=λe=>by subst e;simp at z
      split at h
      ·split at h
       ·simp only[BD,BV]at h;obtain⟨rfl,rfl⟩:=h;rw[aP,aJ y,aP,bk];rfl
       ·cases h
      ·cases h
    ·cases h
   ·cases h
 |_=>simp[ck]at h
theorem wA {E:TypeId}{e:Ty}{y:Leaf}(u:∀ q∈aw [y],st' q=st q):fT st' E e y=fT st E e y:=by
 unfold fT;rw[cj u,jl u,gQ u]
theorem wB {E:TypeId}{e:Ty}{y:Leaf}{t:cI (List e.den)}(h:fT st E e y=some t):(∀ z∈t.frz,z.1∈aw [y])/\∀ z∈t.kill,z.1∈aw [y]:=by
 unfold fT at h;cases H:e.flat with
 |true =>
  rw[H]at h;simp only[cond_true,BL]at h;obtain⟨_,_,rfl⟩:=h;exact⟨by simp,by simp⟩
 |false =>
  rw[H]at h;simp only[cond_false]at h;cases u:decide (e.sh=e) with
  |true =>
   rw[u]at h;simp only[cond_true,BL]at h;obtain⟨_,_,rfl⟩:=h;exact⟨λz J=>eE J,by simp⟩
  |false =>
   rw[u]at h;simp only[cond_false,BL]at h;obtain⟨M,I,rfl⟩:=h;exact i9 I
theorem lu {u:Upd}{d:Nat}{E:TypeId}{e:Ty}{H:Nat}{p:Bool}{xs:List e.den}{ks:List (Nat×Nat)}{y:Leaf}(J:∀ z∈ks,st' z.1=st z.1)(O:∀ q∈aw [y],st' q=st q)(Y:st' d=st d) :
  dX st' (ac u st') u d E e H p xs ks y κ=dX st (ac u st) u d E e H p xs ks y κ:=by
 unfold dX;have M:∀ q,st' q=st q->ac u st' q=ac u st q:=λq h=>bm h u
 rw[wA (st:=ac u st) (st':=ac u st') (λq X=>M q (O q X))];split
 ·rename_i t ht;obtain⟨Z,p2⟩:=wB ht;have e1:aE (ac u st') t.frz=aE (ac u st) t.frz:=ko (λz I=>M _ (O _ (Z z I)));have e2:∀ U:Upd,aN (ac U (ac u st')) (t.kill++ks)=aN (ac U (ac u st)) (t.kill++ks):=λU=>ir (λz I=>bm (M _ ((BE.1 I).elim (λI=>O _ (p2 z I)) (J z))) U)
  simp only[e1,e2,vn Y]
 ·rfl
theorem wC {H:Upd}{d:Nat}{E:TypeId}{e:Ty}{u:Nat}{x y:Leaf}(I:∀ q∈aw [x],st' q=st q)(M:∀ q∈aw [y],st' q=st q)(J:st' d=st d):ew st' H d E e u x y κ=ew st H d E e u x y κ:=by
 unfold ew;cases x with
 |al r j v =>
  have Y:st' r=st r:=I r (by simp[aw]);simp only;rw[cj (st:=ac H st) (st':=ac H st') (l:=.al r j v) (λq X=>bm (I q X) H)];split
  ·rw[lu (λz O=>by simp at O;subst O;exact Y) M J]
  ·rfl
 |nil=>exact lu (by simp) M J
 |_=>rfl
theorem wD {d:Nat}{E:TypeId}{e:Ty}{H:Nat}{x y:Leaf}(J:st' TMP=st TMP)(M:∀ q∈aw [x],st' q=st q)(Y:∀ q∈aw [y],st' q=st q)(O:st' d=st d):iu st' d E e H x y κ=iu st d E e H x y κ:=by
 unfold iu;rw[wC M Y O,gY,gY];cases hn:jq x with
 |false=>rfl
 |true =>
  simp only[cond_true];have hE:st' EPO=st EPO:=by
   cases x with
   |nal p ks ep Z E e xs=>exact M EPO (by rw[iq];exact BJ ..)
   |_=>simp[jq]at hn
  rw[qe J hE M];cases hu:ck st x with
  |none=>rfl
  |some u =>
   obtain⟨n,e1,_⟩:=oA (U:=u.1) (l':=u.2) hu;simp only[CI];rw[e1];unfold ew;simp only;have e2:∀ q,q=TMP->ac u.1 st' q=ac u.1 st q:=λq I=>by rw[I];exact bm J u.1
   rw[cj (st:=ac u.1 st) (st':=ac u.1 st') (l:=.al TMP 0 n) (λq I=>e2 q (by simpa[aw]using I))];split
   ·rw[lu (λz X=>by simp at X;subst X;exact J) Y O]
   ·rfl
structure eT (st st':St) (ls:List Leaf):Prop where
 d1:∀ q∈ay ls,st' q=st q
 d2:∀ r∈ay ls,∀ q∈ay (st r).ls,st' q=st q
 d3:∀ r∈ay ls,∀ r2∈ay (st r).ls,∀ q∈ay (st r2).ls,st' q=st q
theorem kI (p:Bool):∀ (a:Ty) (x:a.den),ay (cH p a x)=[]
 |.int _,_=>rfl
 |.bool,_=>rfl
 |.str,_=>rfl
 |.unit,_=>rfl
 |.hdr,_=>rfl
 |.pair a b,x=>by simp[cH,lq,kI p a,kI p b]
 |.list _ _ _,_=>rfl
theorem rK {l:Leaf}(h:∀ q∈ay [l],st' q=st q):target st' l=target st l:=by
 unfold target;cases l with
 |bp b off =>
  have u:=h b (by simp[ay]);cases off with
  |zero=>simp only[u]
  |succ n=>rfl
 |rp p a x off=>cases off <;> rfl
 |_=>rfl
theorem lv {l:Leaf}{ls:List Leaf}(h:target st l=some ls):∀ q∈ay ls,q∈ay [l]\/∃ r∈ay [l],q∈ay (st r).ls:=by
 unfold target at h;split at h
 ·rename_i b;cases y:decide ((st b).sh=.agg) with
  |false=>simp[y]at h
  |true =>
   simp only[y,cond_true,BD]at h;subst h;intro q u;rcases ny _ _ _ _ _ u with rfl|u
   ·exact .inl (by simp[ay])
   ·exact .inr ⟨b,by simp[ay],u⟩
 ·simp only[BD]at h;subst h;intro q u;rw[kI]at u;simp at u
 ·simp only[BD]at h;subst h;intro q u;simp[ay]at u
 ·cases h
theorem ja {x:aI×List Leaf}{q:Nat}(h:q∈ay [cl x]):q∈ay x.2:=by
 unfold cl at h;split at h
 ·exact h
 ·simp[ay]at h
theorem eT.target {l:Leaf}{ls:List Leaf}(h:eT st st' [l])(H:Go.Proofs.YtaegajachoklkaaGreatEv.target st l=some ls):(∀ q∈ay ls,st' q=st q)/\∀ r∈ay ls,∀ q∈ay (st r).ls,st' q=st q:=by
 constructor
 ·intro q y;rcases lv H q y with u|⟨r,u,z⟩
  ·exact h.d1 q u
  ·exact h.d2 r u q z
 ·intro r J q y;rcases lv H r J with u|⟨I,u,z⟩
  ·exact h.d2 r u q y
  ·exact h.d3 I u r z q y
theorem eT.one {x:aI×List Leaf}(h:eT st st' x.2):eT st st' [cl x] :=
 ⟨λq y=>h.d1 q (ja y),λr u=>h.d2 r (ja u),λr u=>h.d3 r (ja u)⟩
def nA {α:Type}(st st':St)(g:Got α):Prop:=(∀ z∈g.frz,st' z.1=st z.1)/\(∀ z∈g.kill,st' z.1=st z.1)
theorem nB {c:Bool×Ty}{l:Leaf}(Y:eT st st' [l]):fu st' c l=fu st c l/\∀ g,fu st c l=some g->nA st st' g:=by
 unfold fu;rw[rK Y.d1];cases J:target st l with
 |none=>cases c.1 <;> exact⟨rfl,by simp⟩
 |some X =>
  have y:=Y.target J;cases hc:c.1 with
  |false =>
   have u:∀ q∈aw X,st' q=st q:=λq H=>y.1 q (fJ H)
   simp only[cond_false,eO u,jl u,true_and];intro g z;simp only[BL]at z;obtain⟨_,_,rfl⟩:=z;exact⟨lr u,by simp[Got.ofRd]⟩
  |true =>
   simp only[cond_true]
   match X,y,J with
   |[],_,_=>exact⟨rfl,by simp⟩
   |_::_::_,_,_=>exact⟨rfl,by simp⟩
   |[l'],y,J =>
    simp only[rK y.1];cases M:target st l' with
    |none=>exact⟨rfl,by simp⟩
    |some O =>
     have u:∀ q∈aw O,st' q=st q:=by
      intro q H;rcases lv M q (fJ H) with I|⟨r,I,Z⟩
      ·exact y.1 q I
      ·exact y.2 r I q Z
     simp only[eO u,jl u,true_and];intro g z;simp only[BL]at z;obtain⟨_,_,rfl⟩:=z;exact⟨lr u,by simp[Got.ofRd]⟩
theorem mv:∀ (cs:List (Bool×Ty)) (ls:List Leaf),(∀ l∈ls,eT st st' [l])->cr st' cs ls=cr st cs ls/\∀ g,cr st cs ls=some g->nA st st' g
 |[],[],_=>⟨rfl,λg u=>by simp only[cr,BD]at u;subst u;exact⟨by simp,by simp⟩⟩
 |[],_::_,_=>⟨rfl,λg u=>by simp[cr]at u⟩
 |_::_,[],_=>⟨rfl,λg u=>by simp[cr]at u⟩
 |c::cs,l::ls,h=>by
  obtain⟨h1,M⟩:=nB (c:=c) (h l (BJ ..));obtain⟨J,O⟩:=mv cs ls (λy hy=>h y (BI _ hy));simp only[cr,h1,J,true_and];intro g u;split at u
  ·rename_i X H;split at u
   ·rename_i Y I;simp only[BD]at u;subst u;exact⟨λz Z=>(BE.1 Z).elim ((M X H).1 z) ((O Y I).1 z),by simp⟩
   ·cases u
  ·cases u
theorem oC {c:Nat}{q:Nat}:∀ {ls:List Leaf} {c:Nat},q∈aw (aU ls c .nil)->q∈aw ls
 |[],_,h=>h
 |l::ls,0,h=>by
  rw[show aU (l::ls) 0 .nil=.nil::ls from rfl,aL,BE]at h;rw[aL,BE];rcases h with h|h
  ·simp[aw]at h
  ·exact .inr h
 |l::ls,c+1,h=>by
  rw[show aU (l::ls) (c+1) .nil=l::aU ls c .nil from rfl,aL,BE]at h;rw[aL,BE];exact h.imp id (oC (c:=c))
theorem pe {caps:List Nat}{f:FuncId}(H:eT st st' [.clo f caps]):∀ l∈caps.map (λb=>Leaf.bp b 0),eT st st' [l]:=by
 intro l I;obtain⟨b,M,rfl⟩:=BO.1 I;have u:b∈ay [Leaf.clo f caps]:=by simp[ay,M]
 have y:∀ r∈ay [Leaf.bp b 0],r=b:=λr z=>by simpa[ay]using z
 exact⟨λq J=>H.d1 q (by rw[y q J];exact u),λr z=>H.d2 r (by rw[y r z];exact u),λr z=>H.d3 r (by rw[y r z];exact u)⟩
theorem nC {caps:List (Bool×Bool×(a:Ty)×a.den)}:∀ l∈caps.map eU,eT st st' [l]:=by
 intro l z;obtain⟨c,H,rfl⟩:=BO.1 z;have:∀ q,q∉ay [eU c]:=by
  intro q u;unfold eU at u;cases y:c.2.1 <;> rw[y]at u <;> simp[ay]at u
 exact⟨λq u=>absurd u (this q),λq u=>absurd u (this q),λq u=>absurd u (this q)⟩
theorem eu {pk:PK}{x:aI×List Leaf}(h:eT st st' x.2):bg st' pk x=bg st pk x/\∀ g,bg st pk x=some g->nA st st' g:=by
 have Z:∀ q∈aw x.2,st' q=st q:=λq M=>h.d1 q (fJ M)
 have h1:=h.one;have H:∀ {b:Bool} {a:Ty} {g:Got a.den},(bif b then (ch st a x.2).map (λt=>(⟨t.p,t.val,t.frz,t.kill,[],[]⟩:Got a.den)) else none)=some g->nA st st' g:=by
  intro b a g u;cases b with
  |false=>simp at u
  |true =>
   simp only[cond_true,BL]at u;obtain⟨t,ht,rfl⟩:=u;obtain⟨p1,p2⟩:=i9 ht;exact⟨λz J=>Z _ (p1 z J),λz J=>Z _ (p2 z J)⟩
 cases pk with
 |rd a =>
  simp only[bg,eO Z,jl Z,true_and];intro g u;cases O:decide (x.1=bi a.isAgg) with
  |false=>simp[O]at u
  |true =>
   simp only[O,cond_true,BL]at u;obtain⟨y,_,rfl⟩:=u;exact⟨lr Z,by simp[Got.ofRd]⟩
 |own a =>
  simp only[bg,gQ Z,true_and];exact λg u=>H u
 |io a =>
  simp only[bg,gQ Z,true_and];exact λg u=>H u
 |rref a=>exact nB (c:=(false,a)) h1
 |rref2 a=>exact nB (c:=(true,a)) h1
 |iop a =>
  simp only[bg];split
  ·rename_i b Y;rw[Y]at h1;have O:=h1.d1 b (by simp[ay]);have h3:∀ q∈aw (bG b (st b).ver 0 (st b).ls),st' q=st q:=by
    intro q M;rcases nv _ _ _ _ _ M with rfl|M
    ·exact O
    ·exact h1.d2 b (by simp[ay]) q (fJ M)
   simp only[O,gQ h3,true_and];intro g u;cases a1:decide ((st b).sh=.agg) with
   |false=>simp[a1]at u
   |true =>
    simp only[a1,cond_true,BL]at u;obtain⟨t,ht,rfl⟩:=u;obtain⟨p1,p2⟩:=i9 ht;exact⟨λz J=>h3 _ (p1 z J),λz J=>h3 _ (p2 z J)⟩
  ·exact⟨rfl,by simp⟩
 |fn As B =>
  simp only[bg,true_and];intro g u;split at u
  ·split at u
   ·simp only[BD]at u;subst u;exact⟨by simp,by simp⟩
   ·cases u
  ·cases u
 |clo f cs =>
  simp only[bg];split
  ·rename_i f' caps Y;rw[Y]at h1;have:=mv cs _ (pe h1);rw[this.1];refine⟨rfl,λg u=>?_⟩;cases O:BM f' f with
   |false=>simp[O]at u
   |true=>rw[O]at u;exact this.2 g u
  ·rename_i f' caps Y;have:=mv (st:=st) (st':=st') cs _ (nC (caps:=caps));rw[this.1];refine⟨rfl,λg u=>?_⟩;cases O:BM f' f with
   |false=>simp[O]at u
   |true=>rw[O]at u;exact this.2 g u
  ·exact⟨rfl,by simp⟩
 |hol a c off =>
  simp only[bg];have X:∀ q∈aw (aU x.2 c .nil),st' q=st q:=λq M=>Z q (oC (c:=c) M)
  rw[gQ X];cases O:decide (x.1=bi a.isAgg) with
  |false=>exact⟨rfl,by simp⟩
  |true =>
   simp only[cond_true];split
   ·rename_i r j v I;have a2:x.2[c]?=some (.al r j v):=by
     rw[BS]at I;cases M:x.2[c]? with
     |none=>rw[M]at I;simp at I
     |some l0=>rw[M]at I;simp at I;rw[I]
    have hr:=λq M=>Z q (qL a2 q M)
    rw[cj hr];refine⟨rfl,λg u=>?_⟩;split at u
    ·rename_i p i o' E e xs _;cases a0:BM o' off with
     |false=>simp[a0]at u
     |true =>
      rw[a0]at u;simp only[cond_true]at u;split at u
      ·rename_i t ht;split at u
       ·simp only[BD]at u;subst u;obtain⟨p1,p2⟩:=i9 ht;refine⟨λz J=>X _ (p1 z J),λz J=>?_⟩;rcases BR.1 J with rfl|J
        ·exact hr r (by simp[aw])
        ·exact X _ (p2 z J)
       ·cases u
      ·cases u
    ·cases u
   ·exact⟨rfl,by simp⟩
theorem kJ {ga ga':(pk:PK)->aI×List Leaf->Option (Got pk.den)}:∀ (ps:List PK) (xs:List (aI×List Leaf)),
  (∀ x∈xs,∀ pk,ga' pk x=ga pk x/\∀ g,ga pk x=some g->nA st st' g) ->
  bd ga' ps xs=bd ga ps xs/\∀ g,bd ga ps xs=some g->nA st st' g
 |[],[],_=>⟨rfl,λg u=>by simp only[bd,BD]at u;subst u;exact⟨by simp,by simp⟩⟩
 |[],_::_,_=>⟨rfl,λg u=>by simp[bd]at u⟩
 |_::_,[],_=>⟨rfl,λg u=>by simp[bd]at u⟩
 |p::ps,x::xs,h=>by
  obtain⟨h1,M⟩:=h x (BJ ..) p;obtain⟨Z,O⟩:=kJ ps xs (λy hy=>h y (BI _ hy));simp only[bd,h1,Z,true_and];intro g u;split at u
  ·rename_i X H;split at u
   ·rename_i Y I;simp only[BD]at u;subst u;exact⟨λz J=>(BE.1 J).elim ((M X H).1 z) ((O Y I).1 z),λz J=>(BE.1 J).elim ((M X H).2 z) ((O Y I).2 z)⟩
   ·cases u
  ·cases u
theorem tP {H:List Ty}{B:Ty}{f:FuncId}{ls:List Leaf}(h:∀ l∈ls,eT st st' [l]):kL Γ st' H B f ls=kL Γ st H B f ls/\∀ g,kL Γ st H B f ls=some g->nA st st' g:=by
 have u:=λ (q:List PK)=>kJ (st:=st) (st':=st') (ga:=bg st) (ga':=bg st') q (ls.map λl=>(aI.one,[l])) (λy O Y=>by
  obtain⟨l,M,rfl⟩:=BO.1 O;exact eu (h l M))
 unfold kL;split
 ·rename_i c X;unfold sa;simp only[uK,(u _).1,true_and];intro g z;split at z
  ·cases J:(c.ps.drop H.length).all PK.reads&&B.flat&&c.fresh with
   |false=>simp[J]at z
   |true =>
    simp only[J,cond_true]at z;split at z
    ·rename_i g0 I;simp only[BD]at z;subst z;exact⟨((u _).2 g0 I).1,by simp⟩
    ·cases z
  ·cases z
 ·exact⟨rfl,by simp⟩
theorem wE {pk:PK}{x:aI×List Leaf}(h:eT st st' x.2):ca Γ st' pk x=ca Γ st pk x/\∀ g,ca Γ st pk x=some g->nA st st' g:=by
 cases pk with
 |fn O B =>
  simp only[ca];split
  ·rename_i z y;have H:(∃ u,cl x=.clo z.1 u/\z.2=u.map λb=>Leaf.bp b 0)\/∃ u,cl x=.clr z.1 u/\z.2=u.map eU:=by
    generalize cl x=l at y;cases l <;> simp only[vA,BD,reduceCtorEq]at y
    ·subst y;exact .inl ⟨_,rfl,rfl⟩
    ·subst y;exact .inr ⟨_,rfl,rfl⟩
   have J:=h.one;rcases H with ⟨u,H,I⟩|⟨u,H,I⟩
   ·rw[H]at J;rw[I];exact tP (pe J)
   ·rw[I];exact tP nC
  ·exact eu h
 |rd a=>exact eu (pk:=.rd a) h
 |own a=>exact eu (pk:=.own a) h
 |io a=>exact eu (pk:=.io a) h
 |rref a=>exact eu (pk:=.rref a) h
 |rref2 a=>exact eu (pk:=.rref2 a) h
 |iop a=>exact eu (pk:=.iop a) h
 |clo f M=>exact eu (pk:=.clo f M) h
 |hol a c off=>exact eu (pk:=.hol a c off) h
theorem tQ:∀ (u ls:List Leaf),st' EPO=st EPO->(∀ q∈ay u,st' q=st q)->b7 st' u ls=b7 st u ls
 |[],_,_,_=>by simp[b7]
 |x::u,[],_,_=>by cases x <;> simp[b7]
 |x::u,l::ls,z,h=>by
  have y:=tQ u ls z (λq H=>h q (by rw[dx];exact BH _ H));cases x with
  |al r j v =>
   have I:st' r=st r:=h r (by simp[ay]);simp only[b7,y,bm I,bm z]
  |_=>simp only[b7,y]
theorem qf {p:Bool}:∀ (ps:List PK) (xs:List (aI×List Leaf)) (y:ah ps),st' EPO=st EPO->(∀ x∈xs,∀ q∈ay x.2,st' q=st q)->aF st' p ps xs y=aF st p ps xs y
 |[],_,_,_,_=>by simp[aF]
 |J::ps,[],y,_,h=>by cases J <;> simp[aF]
 |J::ps,x::xs,y,X,h=>by
  have I:=λ (y:ah ps)=>qf (p:=p) ps xs y X (λz Y=>h z (BI _ Y))
  have O:=h x (BJ ..);cases J with
  |io a =>
   simp only[aF,I];rw[tQ x.2 _ (bm X _) (λq u=>bm (O q u) _)]
  |iop a =>
   simp only[aF,I];have M:∀ q∈ay [cl x],st' q=st q:=λq u=>O q (ja u)
   congr 1;split
   ·rename_i b v H;rw[H]at M;rw[bm (M b (by simp[ay]))]
   ·rfl
  |_=>exact I _
theorem qg {n q:Nat}:∀ {ls:List Leaf} {k:Nat},q∈ay (aU ls k (.al TMP 0 n))->q∈ay ls\/q=TMP
 |[],_,h=>.inl h
 |l::ls,0,h=>by
  rw[show aU (l::ls) 0 (.al TMP 0 n)=.al TMP 0 n::ls from rfl,dx,BE]at h;rw[dx,BE];rcases h with h|h
  ·simp[ay]at h;exact .inr h
  ·exact .inl (.inr h)
 |l::ls,k+1,h=>by
  rw[show aU (l::ls) (k+1) (.al TMP 0 n)=l::aU ls k (.al TMP 0 n) from rfl,dx,BE]at h;rw[dx,BE];rcases h with h|h
  ·exact .inl (.inl h)
  ·exact (qg h).imp .inr id
theorem pf {U:Upd}{X ls:List Leaf}(hT:st' TMP=st TMP)(u:∀ q,q≠TMP->∀ z∈ay (ac U st q).ls,z∈ay (st q).ls)(J:ay (ac U st TMP).ls=[])(hx:eT st st' X)(I:∀ q∈ay ls,q∈ay X\/q=TMP) :
  eT (ac U st) (ac U st') ls:=by
 have H:∀ r z,z∈ay (ac U st r).ls->r≠TMP:=λr z hz e=>by subst e;rw[J]at hz;simp at hz
 refine⟨λq y=>?_,λr Z q y=>?_,λr Z O M q y=>?_⟩
 ·rcases I q y with h|h
  ·exact bm (hx.d1 q h) U
  ·subst h;exact bm hT U
 ·have Y:=H r q y;exact bm (hx.d2 r ((I r Z).resolve_right Y) q (u r Y q y)) U
 ·have Y:=H r O M;have h2:=H O q y;exact bm (hx.d3 r ((I r Z).resolve_right Y) O (u r Y O M) q (u O h2 q y)) U
theorem oD (Z:st' TMP=st TMP)(hE:st' EPO=st EPO):∀ (ps:List PK) (xs:List (aI×List Leaf)),(∀ x∈xs,eT st st' x.2)->cZ st' ps xs=cZ st ps xs /\
  ∀ (U:Upd) (X:List (aI×List Leaf)) (b:Option (Bool×Nat×Nat)),cZ st ps xs=some (U,X,b)->(∀ y∈X,eT (ac U st) (ac U st') y.2)/\(∀ f r j,b=some (f,r,j)->st' r=st r)/\∀ ls,eT st st' ls->eT (ac U st) (ac U st') ls
 |[],xs,h=>⟨rfl,λU X b z=>by
   simp only[cZ,BD,BV]at z;obtain⟨rfl,rfl,rfl⟩:=z;exact⟨h,(λ_ _ _ h=>by cases h),λ_ h=>h⟩⟩
 |_::_,[],h=>⟨rfl,λU X b z=>by
   simp only[cZ,BD,BV]at z;obtain⟨rfl,rfl,rfl⟩:=z;exact⟨h,(λ_ _ _ h=>by cases h),λ_ h=>h⟩⟩
 |p::ps,x::xs,h=>by
  have hx:=h x (BJ ..);obtain⟨i1,i2⟩:=oD Z hE ps xs (λy M=>h y (BI _ M));simp only[cZ];cases hk:p.nest x.2 with
  |none =>
   simp only[i1,true_and];intro U X b z;simp only[BL]at z;obtain⟨u,O,z⟩:=z;simp only[BV]at z;obtain⟨rfl,rfl,rfl⟩:=z;obtain⟨j1,j2,j3⟩:=i2 u.1 u.2.1 u.2.2 O;refine⟨λy M=>?_,j2,j3⟩;rcases BR.1 M with rfl|M
   ·exact j3 _ hx
   ·exact j1 y M
  |some k =>
   obtain⟨l,a0,Y⟩:=rB hk;have hg:x.2.getD k .dead=l:=by rw[BS,a0];rfl
   have a1:∀ q∈aw [l],st' q=st q:=λq J=>hx.d1 q (fJ (qL a0 q J))
   simp only[hg,qe Z hE a1,true_and];intro U X b z;simp only[BL]at z;obtain⟨u,O,z⟩:=z;simp only[BV]at z;obtain⟨rfl,rfl,rfl⟩:=z;obtain⟨n,e1,I⟩:=oA (U:=u.1) (l':=u.2) O;have H:=uH (U:=u.1) (l':=u.2) O;refine⟨λy M=>?_,λf r j hb=>?_,λls a2=>pf Z I H a2 (λq J=>.inl J)⟩
   ·rcases BR.1 M with rfl|M
    ·refine pf Z I H hx λq J=>?_
     have J:q∈ay (aU x.2 k u.2):=J;rw[e1]at J;exact qg J
    ·exact pf Z I H (h y (BI _ M)) (λq J=>.inl J)
   ·simp only[BD,BV]at hb;have hr:r=(kj l).1:=by rw[hb.2]
    rw[hr];refine a1 _ ?_;cases l with
    |nal p ks ep a3 E e xs =>
     cases ks with
     |nil =>
      exfalso;simp only[ck]at O;cases hv:br st [] ep <;> simp[hv]at O
     |cons k ks=>rw[iq];simp[kj]
    |_=>simp[jq]at Y
theorem zv {b:Option (Bool×Nat×Nat)}{U:Upd}(y:st' TMP=st TMP)(u:st' EPO=st EPO)(z:∀ f r j,b=some (f,r,j)->st' r=st r):j0 st' b U κ=j0 st b U κ:=by
 unfold j0;split
 ·rename_i r j;rw[bm (z true r j rfl),bm y,bm u]
 ·rfl
theorem tR {d:Nat}{f:FuncId}{xs:List (aI×List Leaf)}(hT:st' TMP=st TMP)(X:st' EPO=st EPO)(hx:∀ x∈xs,eT st st' x.2)(hd:st' d=st d)(hB:st' (B0+d)=st (B0+d)):jr Γ st' d f xs κ=jr Γ st d f xs κ:=by
 unfold jr;split
 ·rename_i c hc;obtain⟨n1,n2⟩:=oD hT X c.ps xs hx;rw[gy,gy,n1];cases hn:cZ st c.ps xs with
  |none=>rfl
  |some u =>
   obtain⟨H,M,b⟩:=u;obtain⟨m1,m2,_⟩:=n2 H M b hn;simp only[CI];have hg:=kJ (st:=ac H st) (st':=ac H st') (ga:=ca Γ (ac H st)) (ga':=ca Γ (ac H st')) c.ps M (λx I pk=>wE (m1 x I));simp only[oI,hg.1];split
   ·rename_i g a0;obtain⟨h1,h2⟩:=hg.2 g a0;have O:gD st' d c.rs=gD st d c.rs:=by
     unfold gD;split
     ·rw[hB]
     ·rfl
    have hL:∀ q,ac H st' q=ac H st q->∀ U,ac (U++H) st' q=ac (U++H) st q:=λq h U=>by rw[bD,bD];exact bm h U
    have a1:(bif c.fresh then [] else aE (ac H st') g.frz)=(bif c.fresh then [] else aE (ac H st) g.frz):=by rw[ko h1]
    have hk:∀ (U:Upd),aN (ac U (ac H st')) g.kill=aN (ac U (ac H st)) g.kill:=λU=>ir (λz hz=>bm (h2 z hz) U)
    have ho:∀ (U:Upd) (p:Bool) (y:ah c.ps),aF (ac (U++H) st') p c.ps M y=aF (ac (U++H) st) p c.ps M y:=λU p y =>
     qf c.ps M y (hL _ (bm X H) U) (λx I q hq=>hL _ ((m1 x I).d1 q hq) U)
    have J:∀ (U:Upd),(g.frz.map λk=>(k.1,k.2,(ac (U++H) st' k.1).ver))=g.frz.map λk=>(k.1,k.2,(ac (U++H) st k.1).ver):=λU=>Cq λz hz=>by rw[hL _ (h1 z hz) U]
    have a2:∀ U,ac U st' d=ac U st d:=λU=>bm hd U
    have Z:∀ U,ac U st' (B0+d)=ac U st (B0+d):=λU=>bm hB U
    have Y:∀ U,ac U st' EPO=ac U st EPO:=λU=>bm X U
    simp only[O,a1,hk,ho,a2,Z,Y,<- CA,J,zv hT X m2]
   ·rfl
 ·rfl
theorem rL:∀ (u:List Ty) (xs:List (aI×List Leaf)),(∀ x∈xs,∀ q∈aw x.2,st' q=st q)->iL st' u xs=iL st u xs
 |[],[],_=>rfl
 |[],_::_,_=>rfl
 |_::_,[],_=>rfl
 |a::u,x::xs,h=>by
  simp only[iL,eO (h x (BJ ..)),rL u xs (λy z=>h y (BI _ z))]
theorem wF {r j i off n:Nat}{p:Bool}{E:TypeId}{e:Ty}{xs:List e.den}{h:Option (Nat×Nat)}{ls:List Leaf}(J:st' r=st r)(X:st' EPO=st EPO)(y:∀ q∈aw ls,st' q=st q):gE st' r j i off n p E e xs h ls κ=gE st r j i off n p E e xs h ls κ:=by
 unfold gE;congr 1;funext u;rw[pc e 0 u ls y];split
 ·rename_i t O;obtain⟨I,Z⟩:=pd e 0 u ls t O;have Y:aE st' t.frz=aE st t.frz:=ko (λz H=>y _ (I z H));have M:∀ U:Upd,aN (ac U st') t.kill=aN (ac U st) t.kill:=λU=>ir (λz H=>bm (y _ (Z z H)) U)
  simp only[Y,M,J,bm X]
 ·rfl
end
section
variable {P:Program} {V:Env} {Γ:List Ctr} {T:TypeId->TI} {st st':St} {o:Oper} {R:Type} {κ:Upd->Option R} {r:R}
theorem dy {H:List Nat}(h:∀ q∈H++H.flatMap (λt=>aw (st t).ls),st' q=st q){x:Operand}(z:∀ t,x=.tmp t->t∈H):(∀ t,x=.tmp t->st' t=st t)/\∀ q∈aw (au st x).2,st' q=st q:=by
 refine⟨λt y=>h t (BG _ (z t y)),λq u=>?_⟩;obtain⟨t,y,u⟩:=rH u;rcases u with rfl|u
 ·exact h q (BG _ (z q y))
 ·exact h q (BH _ (BW.2 ⟨t,z t y,u⟩))
theorem nD {H:List Nat}(h:∀ q∈H++H.flatMap (λt=>ay (st t).ls),st' q=st q){x:Operand}(z:∀ t,x=.tmp t->t∈H):(∀ t,x=.tmp t->st' t=st t)/\∀ q∈ay (au st x).2,st' q=st q:=by
 refine⟨λt y=>h t (BG _ (z t y)),λq u=>?_⟩;obtain⟨t,y,u⟩:=rI u;rcases u with rfl|u
 ·exact h q (BG _ (z q y))
 ·exact h q (BH _ (BW.2 ⟨t,z t y,u⟩))
theorem qh {y:List Nat}(h:∀ q∈kN st y,st' q=st q){x:Operand}(hx:∀ t,x=.tmp t->t∈y):eT st st' (au st x).2:=by
 have I:∀ q,q∈y->st' q=st q:=λq u=>h q (by simp[kN];exact .inl u)
 have O:∀ q,q∈y.flatMap (λt=>ay (st t).ls)->st' q=st q:=λq u=>h q (by
  unfold kN;exact BG _ (BG _ (BH _ u)))
 have hb:∀ q,q∈(y.flatMap (λt=>ay (st t).ls)).flatMap (λt=>ay (st t).ls)->st' q=st q:=λq u=>h q (by
  unfold kN;exact BG _ (BH _ u))
 have hc:∀ q,q∈((y.flatMap (λt=>ay (st t).ls)).flatMap (λt=>ay (st t).ls)).flatMap (λt=>ay (st t).ls)->st' q=st q:=λq u=>h q (by
  unfold kN;exact BH _ u)
 have Z:∀ r∈ay (au st x).2,r∈y\/r∈y.flatMap (λt=>ay (st t).ls):=by
  intro r z;obtain⟨t,Y,u⟩:=rI z;rcases u with rfl|u
  ·exact .inl (hx r Y)
  ·exact .inr (BW.2 ⟨t,hx t Y,u⟩)
 have X:∀ r∈ay (au st x).2,∀ q∈ay (st r).ls,q∈y.flatMap (λt=>ay (st t).ls)\/q∈(y.flatMap (λt=>ay (st t).ls)).flatMap (λt=>ay (st t).ls):=by
  intro r z q u;rcases Z r z with H|H
  ·exact .inl (BW.2 ⟨r,H,u⟩)
  ·exact .inr (BW.2 ⟨r,H,u⟩)
 refine⟨λq u=>(Z q u).elim (I q) (O q),λr z q u=>(X r z q u).elim (O q) (hb q),λr z M J q u=>?_⟩;rcases X r z M J with H|H
 ·exact hb q (BW.2 ⟨M,H,u⟩)
 ·exact hc q (BW.2 ⟨M,H,u⟩)
theorem bf {xs:Array Operand}{x:Operand}(h:x∈xs):∀ t,x=.tmp t->t∈iv xs.toList:=λt e=>rG (by rw[<- e];simpa using h)
theorem op_fr (h:∀ q∈fy st o,st' q=st q)(z:∀ x,o.op≠.move x)(H:∀ t x i,o.op≠.indexAddr t x i):∀ q∈cm st o.op,st' q=st q:=λq y=>h q (by
 unfold fy;refine BG _ ?_;cases u:o.op with
 |move x=>exact absurd u (z x)
 |indexAddr t x i=>exact absurd u (H t x i)
 |_=>rw[u]at y;exact y)
theorem AH {α β:Type}{xs:List α}{n:Int}{K:Option β}:((idx xs n).bind λ_=>K)=if 0<=n/\n<xs.length then K else none:=by
 unfold idx;by_cases u:n<0
 ·rw[if_pos u,if_neg (by omega)];rfl
 ·rw[if_neg u];by_cases y:n.toNat<xs.length
  ·rw[BU y,if_pos (by omega)];rfl
  ·rw[Ck (by omega),if_neg (by omega)];rfl
theorem Bt (h:∀ q∈fy st o,st' q=st q)(hh:∀ q∈fa st o.op,bK (st' q)=bK (st q)):act Γ T o st' κ=act Γ T o st κ:=by
 have M:=op_fr h;have a0:∀ (U:Upd) (d:Nat) (sh:aI) (ls:List Leaf),o.dst=some d->cg st' U d sh ls=cg st U d sh ls:=λU d sh ls hd=>vn (tO hd h).1
 have hB:∀ d,o.dst=some d->st' (B0+d)=st (B0+d):=λd hd=>(tO hd h).2
 have hw:∀ (sh:aI) (ls:List Leaf),wrU o st' κ sh ls=wrU o st κ sh ls:=by
  intro sh ls;unfold wrU;split
  ·rename_i d hd;rw[a0 _ _ _ _ hd]
  ·rfl
 cases I:o.op with
 |move x =>
  simp only[I,fa]at hh;have e:au st' x=au st x:=yb λt Y=>hh t (bf (by simp[Op.operands]) t Y)
  simp only[act,I,e,hw]
 |assign x =>
  have H:=M (by simp[I]) (by simp[I]);simp only[I,cm]at H;have J:=dy H (x:=x) (bf (by simp[Op.operands]));have e:au st' x=au st x:=dW J.1;simp only[act,I,e,qN J.2,pb J.2,tL J.2];split
  ·rename_i d hd;rw[a0 _ _ _ _ hd]
  ·rfl
 |pick c x y =>
  have H:=M (by simp[I]) (by simp[I]);simp only[I,cm]at H;have e1:one st' c=one st c:=dG λt Y=>H t (bf (by simp[Op.operands]) t Y)
  have e2:au st' x=au st x:=dW λt Y=>H t (bf (by simp[Op.operands]) t Y)
  have e3:au st' y=au st y:=dW λt Y=>H t (bf (by simp[Op.operands]) t Y)
  simp only[act,I,e1,e2,e3,hw]
 |alloc t =>
  simp only[act,I];split
  ·rename_i d hd;rw[a0 _ _ _ _ hd,hB d hd]
  ·rfl
 |box t x =>
  have H:=M (by simp[I]) (by simp[I]);simp only[I,cm]at H;have J:=dy H (x:=x) (bf (by simp[Op.operands]));have e:au st' x=au st x:=dW J.1;have b1:sr st' x=sr st x:=by cases x <;> first|rfl|(simp only[sr];rw[J.1 _ rfl])
  simp only[act,I,e,qN J.2,pb J.2,tL J.2,b1];split
  ·rename_i d hd;simp only[a0 _ _ _ _ hd,hB d hd,bm (hB d hd)]
  ·rfl
 |build t a2 =>
  have H:=M (by simp[I]) (by simp[I]);simp only[I,cm]at H;have hb:∀ a6 ls,fw st' a6 a2.toList ls=fw st a6 a2.toList ls:=λa6 ls=>qd _ _ (λx J t Y=>H t (bf (by simp only[Op.operands,C4,BO];exact⟨x,J,rfl⟩) t Y))
  simp only[act,I,hw,hb]
 |buildSlice t n a2 =>
  have H:=M (by simp[I]) (by simp[I]);simp only[I,cm]at H;have J:∀ x∈a2.toList,(∀ t,x.2=.tmp t->st' t=st t)/\∀ q∈aw (au st x.2).2,st' q=st q:=λx J =>
   dy H (bf (by simp only[Op.operands,C4,BO];exact⟨x,J,rfl⟩))
  simp only[act,I];split
  ·rw[oy _ _ J];split
   ·rename_i u c2;have c1:=oz _ _ _ c2;have b2:∀ z,z∈u.frz\/z∈u.kill->st' z.1=st z.1:=λz hz=>by
     obtain⟨x,b9,ba⟩:=c1 z hz;exact (J x b9).2 _ ba
    have e1:aE st' u.frz=aE st u.frz:=ko λz hz=>b2 z (.inl hz)
    have e2:∀ U:Upd,aN (ac U st') u.kill=aN (ac U st) u.kill:=λU=>ir (λz hz=>bm (b2 z (.inr hz)) U)
    simp only[e1,e2];congr 1;split
    ·rename_i d hd;rw[a0 _ _ _ _ hd]
    ·rfl
   ·rfl
  ·rfl
 |load t x =>
  have H:=M (by simp[I]) (by simp[I]);simp only[I,cm]at H;have J:=nD H (x:=x) (bf (by simp[Op.operands]));have e:one st' x=one st x:=dG J.1;have X:∀ q∈ay [one st x],st' q=st q:=λq O=>J.2 q (tM O)
  simp only[act,I,e,hw];congr 1;split
  ·rfl
  ·rename_i b off Z;rw[Z]at X;rw[X b (by simp[ay])]
  ·rfl
  ·rename_i p ks ep a y off Z;rw[Z]at X;rw[jN (λq O=>X q (by simpa[ay]using O))]
  ·rename_i r j v i sz off Z;rw[Z]at X;rw[cj (l:=.al r j v) (λq O=>X q (by simp[aw]at O;simp[ay,O])),X EPO (by simp[ay])]
  ·rfl
 |store t x y =>
  have H:=M (by simp[I]) (by simp[I]);simp only[I,cm]at H;have J:=nD H (x:=x) (bf (by simp[Op.operands]));have hy:=nD H (x:=y) (bf (by simp[Op.operands]));have e:one st' x=one st x:=dG J.1;have e2:au st' y=au st y:=dW hy.1;have X:∀ q∈ay [one st x],st' q=st q:=λq O=>J.2 q (tM O)
  have a9:∀ q∈aw (au st y).2,st' q=st q:=λq O=>hy.2 q (fJ O)
  simp only[act,I,e,e2,qN a9,pb a9,tL a9];split
  ·rfl
  ·congr 1;split
   ·rename_i b off Z;rw[Z]at X;have hb:=X b (by simp[ay]);simp only[hb,bm hb]
   ·rename_i r j v i sz off Z;rw[Z]at X;have c3:=X r (by simp[ay]);rw[cj (l:=.al r j v) (λq O=>X q (by simp[aw]at O;simp[ay,O]))];split
    ·rw[wF c3 (X EPO (by simp[ay])) a9]
    ·rfl
   ·rfl
 |nilCheck x =>
  have H:=M (by simp[I]) (by simp[I]);simp only[I,cm]at H;have J:=dy H (x:=x) (bf (by simp[Op.operands]));have e:one st' x=one st x:=dG J.1;have X:∀ q∈aw [one st x],st' q=st q:=λq O=>J.2 q (jo O)
  simp only[act,I,e,hw];split
  ·rfl
  ·rfl
  ·rename_i r j v i sz off Z;rw[Z]at X;rw[X r (by simp[aw])]
  ·rfl
  ·rename_i p ks ep a y off Z;rw[Z,vm]at X;rw[jN X]
  ·rfl
 |binOp op t x y t' =>
  have H:=M (by simp[I]) (by simp[I]);simp only[I,cm]at H;have J:=dy H (x:=x) (bf (by simp[Op.operands]));have hy:=dy H (x:=y) (bf (by simp[Op.operands]));have e1:one st' x=one st x:=dG J.1;have e2:one st' y=one st y:=dG hy.1;have e3:au st' x=au st x:=dW J.1;have e4:au st' y=au st y:=dW hy.1;simp only[act,I,e1,e2,e3,e4,hw,eO J.2,eO hy.2]
 |unOp op t x =>
  have H:=M (by simp[I]) (by simp[I]);simp only[I,cm]at H;have e1:one st' x=one st x:=dG λt Y=>H t (bf (by simp[Op.operands]) t Y)
  simp only[act,I,e1,hw]
 |convert s t x =>
  have H:=M (by simp[I]) (by simp[I]);simp only[I,cm]at H;have J:=dy H (x:=x) (bf (by simp[Op.operands]));have e1:one st' x=one st x:=dG J.1;have X:∀ q∈aw [one st x],st' q=st q:=λq O=>J.2 q (jo O)
  simp only[act,I,e1,hw];split
  ·rfl
  ·rw[cj X]
  ·rfl
  ·rfl
 |makeSlice t n c =>
  have H:=M (by simp[I]) (by simp[I]);simp only[I,cm]at H;have e1:one st' n=one st n:=dG λt Y=>H t (bf (by simp[Op.operands]) t Y)
  have e2:one st' c=one st c:=dG λt Y=>H t (bf (by simp[Op.operands]) t Y)
  simp only[act,I,e1,e2,hw]
 |slice t x lo hi mx =>
  have H:=M (by simp[I]) (by simp[I]);simp only[I,cm]at H;have hE:=H EPO (BJ ..);have H:=λq O=>H q (BI _ O)
  have J:=dy H (x:=x) (bf (by simp[Op.operands]));have c0:∀ n,dl st' lo n=dl st lo n:=λn=>nz λy hy t Y=>H t (BG _ (bf (by simp[Op.operands,hy]) t Y))
  have bx:∀ n,dl st' hi n=dl st hi n:=λn=>nz λy hy t Y=>H t (BG _ (bf (by simp[Op.operands,hy]) t Y))
  have e:one st' x=one st x:=dG J.1;have X:∀ q∈aw [one st x],st' q=st q:=λq O=>J.2 q (jo O)
  have bb:∀ m,mx=some m->dl st' (some m) 0=dl st (some m) 0:=λm hm=>nz λy hy t Y=>H t (BG _ (bf (by simp[Op.operands,hm,C9 hy]) t Y))
  simp only[act,I,e,c0,bx,cj X,hE];cases hd:o.dst with
  |none=>cases mx <;> rfl
  |some d =>
   cases mx with
   |none=>simp only[a0 _ _ _ _ hd]
   |some m =>
    simp only[bb m rfl];split
    ·rename_i r j v _ Z _;rw[Z]at X;rw[cj X,ir (st:=st) (st':=st') (λz hz=>by simp at hz;subst hz;exact X _ (by simp[aw]))];simp only[a0 _ _ _ _ hd]
    ·rfl
 |fieldAddr t x f =>
  have H:=M (by simp[I]) (by simp[I]);simp only[I,cm]at H;have J:=dy H (x:=x) (bf (by simp[Op.operands]));have e:one st' x=one st x:=dG J.1;have X:∀ q∈aw [one st x],st' q=st q:=λq O=>J.2 q (jo O)
  simp only[act,I,e,hw];split
  ·split
   ·split
    ·rfl
    ·rfl
    ·rename_i r j v i sz off Z;rw[Z]at X;rw[X r (by simp[aw])]
    ·rename_i p ks ep a y o' Z;rw[Z,vm]at X;rw[jN X]
    ·rfl
   ·rfl
  ·rfl
 |field t x f =>
  have H:=M (by simp[I]) (by simp[I]);simp only[I,cm]at H;have e1:au st' x=au st x:=dW λt Y=>H t (bf (by simp[Op.operands]) t Y)
  simp only[act,I,e1,hw]
 |indexAddr t x i =>
  simp only[I,fa]at hh;have b3:∀ y∈(Op.indexAddr t x i).operands,∀ t,y=.tmp t->bK (st' t)=bK (st t):=λy hy t Y=>hh t (BG _ (bf hy t Y))
  have e:one st' x=one st x:=zQ (b3 x (by simp[Op.operands]));have e2:one st' i=one st i:=zQ (b3 i (by simp[Op.operands]));have X:∀ q∈aw [one st x],bK (st' q)=bK (st q):=λq O=>by
   obtain⟨t',bl,O⟩:=rH (jo O);have a5:=bf (xs:=(Op.indexAddr t x i).operands) (x:=x) (by simp[Op.operands]) t' bl;rcases O with rfl|O
   ·exact hh q (BG _ a5)
   ·exact hh q (BH _ (BW.2 ⟨t',a5,O⟩))
  simp only[act,I,e,e2,hw];split
  ·split
   ·rfl
   ·split
    ·rename_i r j v Z;rw[Z]at X;have O:=X r (by simp[aw]);have hv:(st' r).ver=(st r).ver:=by simp only[bK,BV]at O;exact O.1
     simp only[aC,hv];cases BM (st r).ver v with
     |false=>rfl
     |true =>
      simp only[cond_true];rcases tN (yc O j) with e3|⟨p,p',h1,h2,E1,E2,e',cb,xs,c4,e3,e4,e5,e6⟩
      ·rw[e3]
      ·rw[e3,e4];simp only[po,e5,AH,e6]
    ·rfl
    ·rename_i p ks ep cc E' e' xs Z;rw[Z,iq]at X;rw[zu X]
    ·rfl
   ·rfl
  ·rfl
 |index t x i =>
  have H:=M (by simp[I]) (by simp[I]);simp only[I,cm]at H;have J:=dy H (x:=x) (bf (by simp[Op.operands]));have e1:one st' x=one st x:=dG J.1;have e2:one st' i=one st i:=dG (dy H (x:=i) (bf (by simp[Op.operands]))).1;have e3:au st' x=au st x:=dW J.1;simp only[act,I,e1,e2,e3,hw,λe n=>nu (e:=e) n _ J.2]
 |extract x i =>
  have H:=M (by simp[I]) (by simp[I]);simp only[I,cm]at H;have e1:au st' x=au st x:=dW λt Y=>H t (bf (by simp[Op.operands]) t Y)
  simp only[act,I,e1,hw]
 |makeFunc fn first a3 =>
  have H:=M (by simp[I]) (by simp[I]);simp only[I,cm]at H;cases fn with
  |func f =>
   have:sv st' a3.toList=sv st a3.toList:=vo (st:=st) (st':=st') a3.toList (some []) (λx J t Y=>H t (bf (by simp[Op.operands];exact .inr (by simpa using J)) t Y));simp only[act,I,hw,this]
  |_=>simp only[act,I]
 |call c =>
  have H:=M (by simp[I]) (by simp[I]);simp only[I,cm]at H;simp only[act,I];split
  ·rfl
  ·rename_i d hd;obtain⟨b0,b5⟩:=tO hd h;cases hc:c.callee with
   |value f =>
    simp only[hc]at H;have hT:=H TMP (BJ ..);have hE:=H EPO (BI _ (BJ ..));have H:=λq O=>H q (BI _ (BI _ O))
    have b4:f∈(Op.call c).operands:=by simp[Op.operands,Call.operands,hc]
    have ad:∀ x∈c.args.toList,x∈(Op.call c).operands:=λx J=>by
     simp only[Op.operands,Call.operands,hc,C5];exact .inr (by simpa using J)
    have a5:∀ x∈(Op.call c).operands,∀ t,x=.tmp t->st' t=st t:=λx J t Y=>H t (by
     unfold kN;exact BG _ (BG _ (BG _ (bf J t Y))))
    have e1:one st' f=one st f:=dG (a5 f b4);have e2:c.args.toList.map (au st')=c.args.toList.map (au st):=Cq λx J=>dW (a5 x (ad x J))
    have a4:∀ x∈c.args.toList.map (au st),eT st st' x.2:=by
     intro x J;obtain⟨y,hy,rfl⟩:=BO.1 J;exact qh H (bf (ad y hy))
    simp only[e1,e2];split
    ·rename_i g a3 Z;refine tR hT hE ?_ b0 b5;intro x J;rcases BE.1 J with J|J
     ·exact a4 x J
     ·obtain⟨b,hb,rfl⟩:=BO.1 J;have hf:=qh H (bf b4);rw[qO Z (by simp)]at hf;exact pe hf _ (BO.2 ⟨b,hb,rfl⟩)
    ·rename_i g a3 Z;refine tR hT hE ?_ b0 b5;intro x J;rcases BE.1 J with J|J
     ·exact a4 x J
     ·obtain⟨cp,bn,rfl⟩:=BO.1 J;exact nC _ (BO.2 ⟨cp,bn,rfl⟩)
    ·rename_i As B φ Z;rw[rL As _ (λx J q O=>(a4 x J).d1 q (fJ O))];simp only[hw]
    ·rfl
   |builtin b =>
    simp only[hc]at H;have hT:=H TMP (BJ ..);have H:=λq O=>H q (BI _ O)
    have ad:∀ x∈c.args.toList,x∈(Op.call c).operands:=λx J=>by
     simp only[Op.operands,Call.operands,hc,C5];exact .inr (by simpa using J)
    have J:∀ x∈c.args.toList,one st' x=one st x/\∀ q∈aw [one st x],st' q=st q:=λx J=>by
     have:=dy H (bf (ad x J));exact⟨dG this.1,λq O=>this.2 q (jo O)⟩
    cases b with
    |len =>
     dsimp only;split
     ·rename_i x a1;have h1:=J x (by rw[a1];simp);simp only[h1.1,cj h1.2,hw]
     ·rfl
    |append =>
     dsimp only;split
     ·rename_i x y t u a1 _;have h1:=J x (by rw[a1];simp);have h2:=J y (by rw[a1];simp);split
      ·rw[h1.1,h2.1,wD hT h1.2 h2.2 b0]
      ·rfl
     ·rfl
    |min =>
     dsimp only;split
     ·rename_i x y a1;rw[(J x (by rw[a1];simp)).1,(J y (by rw[a1];simp)).1];simp only[hw]
     ·rfl
    |max =>
     dsimp only;split
     ·rename_i x y a1;rw[(J x (by rw[a1];simp)).1,(J y (by rw[a1];simp)).1];simp only[hw]
     ·rfl
    |_=>rfl
   |invoke x n=>rfl
 |_=>simp only[act,I]
end
section
variable {P:Program} {V:Env} {Γ:List Ctr} {T:TypeId->TI} {st st':St} {o:Oper} {R:Type} {all:Array Oper}
def mw (Γ:List Ctr)(T:TypeId->TI)(all:Array Oper)(o:Oper)(st:St)(U:Upd):Prop :=
 match o.guard with
 |none=>act Γ T o st some=some U
 |some (j,r)=>∃ t,(all[j]?).bind (·.dst)=some t /\
  ((∃ b,(st t).sh=.one/\(st t).ls=[.bool b]/\((b=r/\act Γ T o st some=some U)\/(b≠r/\U=eQ st o)))\/((st t).sh=.und/\U=eQ st o))
def jO (Γ:List Ctr)(T:TypeId->TI)(all:Array Oper)(o:Oper)(st:St)(U:Upd)(t:cK):Prop :=
 ((∀ q∈U.map (·.1),q∈t.wr\/q∈t.cw)/\(∀ q∈t.wr,q∈U.map (·.1))/\∀ q,q∈U.map (·.1)->q∉t.wr->bK (ac U st q)=bK (st q))/\match o.guard with
 |none=>act Γ T o st some=some U/\(∀ q∈fy st o,q∈t.rd)/\∀ q∈fa st o.op,q∈t.hd
 |some (j,r)=>∃ s,(all[j]?).bind (·.dst)=some s/\s∈t.rd /\
  ((∃ b,(st s).sh=.one/\(st s).ls=[.bool b]/\((b=r/\act Γ T o st some=some U/\(∀ q∈fy st o,q∈t.rd)/\∀ q∈fa st o.op,q∈t.hd)\/(b≠r/\U=eQ st o/\∀ d,o.dst=some d->d∈t.wr))) \/
   ((st s).sh=.und/\U=eQ st o/\∀ d,o.dst=some d->d∈t.wr))
theorem tS {α:Type}:∀ {l:List α} {j:Nat} {x:α},l[j]?=some x->l.set j x=l
 |[],_,_,h=>by simp at h
 |y::l,0,x,h=>by simp at h;subst h;rfl
 |y::l,j+1,x,h=>by rw[Cw,tS (by simpa using h)]
theorem AI {U:Upd}(h:act Γ T o st some=some U):∀ q∈d7 st o,bK (ac U st q)=bK (st q):=by
 intro q u;unfold d7 at u;split at u
 ·rename_i t x y J;split at u
  ·rename_i r j a1 i sz off hx;simp only[CD]at u;subst u;simp only[act,wrU,J]at h;split at h
   ·cases h
   ·cases Y:BM (au st y).2.length (T t).cells&&decide ((au st y).1=bi (T t).agg)&&!decide ((T t).cells=0) with
    |false=>simp[Y]at h
    |true =>
     simp only[Y,cond_true,hx]at h;split at h
     ·rename_i p hh E e xs hd;cases M:BM sz e.cells&&decide (off+(au st y).2.length<=e.cells)&&sb q with
      |false=>simp[M]at h
      |true =>
       simp only[M,cond_true]at h;obtain⟨_,hl⟩:=fj hd (by simp);have z:∀ (O:Bool) (H:Option (Nat×Nat)) (v:e.den) (X:Upd),bK (ac ((q,⟨(st q).ver,(st q).sh,aU (st q).ls j (.own O H E e (xs.set i v))⟩)::X) st q)=bK (st q):=by
        intro O H v X;rw[aP,bk];simp only[bK,aU];rw[List.map_set,tS];rw[Cz,hl];simp[jy]
       unfold gE at h;obtain⟨a0,_,h⟩:=CB.1 h;split at h
       ·rename_i t _;cases I:t.rest.isEmpty&&a7 t.kill&&dE t.frz t.kill&&!((t.kill++t.frz).any λk=>BM k.1 q) with
        |false=>rw[I]at h;cases h
        |true =>
         simp only[I,cond_true]at h;cases hh with
         |none =>
          simp only[BD]at h;rw[<- h];exact z _ _ _ _
         |some hp =>
          obtain⟨hi,Z⟩:=hp;simp only at h;cases h1:Cp off Z&&Ci Z (off+(au st y).2.length) with
          |false =>
           rw[h1]at h;simp only[cond_false,BD]at h;rw[<- h];exact z _ _ _ _
          |true =>
           rw[h1]at h;simp only[cond_true]at h;cases h2:BM i hi <;> rw[h2]at h <;> simp only[cond_true,cond_false,BD]at h <;> rw[<- h] <;> exact z _ _ _ _
       ·cases h
     ·cases h
  ·simp at u
 ·simp at u
theorem pg {t:Nat}{b:Bool}(u:(st t).sh=.one)(r:(st t).ls=[.bool b]):lit st t b=st:=by
 funext q;unfold lit;rcases aj t q ⟨(st t).ver,.one,[.bool b]⟩ st with ⟨rfl,e⟩|⟨_,e⟩
 ·rw[e,<- u,<- r]
 ·exact e
theorem wG {U:Upd}(h:act Γ T o st some=some U):(∀ q∈U.map (·.1),q∈(U.map (·.1)).filter (λq=>!((d7 st o).any (BM q)))\/q∈d7 st o)/\(∀ q∈(U.map (·.1)).filter (λq=>!((d7 st o).any (BM q))),q∈U.map (·.1)) /\
  ∀ q,q∈U.map (·.1)->q∉(U.map (·.1)).filter (λq=>!((d7 st o).any (BM q)))->bK (ac U st q)=bK (st q):=by
 have r:∀ q,(d7 st o).any (BM q)=true->q∈d7 st o:=λq u=>by
  obtain⟨x,z,H⟩:=CS.1 u;rw[BK H];exact z
 refine⟨λq u=>?_,λq u=>(CO.1 u).1,λq u I=>?_⟩
 ·cases y:(d7 st o).any (BM q) with
  |true=>exact .inr (r q y)
  |false=>exact .inl (CO.2 ⟨u,by rw[y];rfl⟩)
 ·refine AI h q (r q ?_);cases y:(d7 st o).any (BM q) with
  |true=>rfl
  |false=>exact absurd (CO.2 ⟨u,by rw[y];rfl⟩) I
theorem AJ {κ:St->cK->Option R}{r:R}(h:opK Γ T all o st κ=some r):∃ U t,jO Γ T all o st U t/\κ (ac U st) t=some r:=by
 have Y:∀ (I:List Nat),act Γ T o st (λU=>κ (ac U st) ⟨I++fy st o,fa st o.op,(U.map (·.1)).filter (λq=>!((d7 st o).any (BM q))),d7 st o⟩)=some r ->
   ∃ U,act Γ T o st some=some U/\κ (ac U st) ⟨I++fy st o,fa st o.op,(U.map (·.1)).filter (λq=>!((d7 st o).any (BM q))),d7 st o⟩=some r:=by
  intro I h;rw[tK]at h;obtain⟨U,M,X⟩:=CB.1 h;exact⟨U,M,X⟩
 have y:((∀ q∈(eQ st o).map (·.1),q∈o.dst.toList\/q∈([]:List Nat))/\(∀ q∈o.dst.toList,q∈(eQ st o).map (·.1))/\∀ q,q∈(eQ st o).map (·.1)->q∉o.dst.toList->bK (ac (eQ st o) st q)=bK (st q)):=by
  unfold eQ;cases o.dst with
  |none=>simp
  |some d=>simp
 unfold opK at h;unfold jO;cases hg:o.guard with
 |none =>
  simp only[hg]at h;obtain⟨U,M,X⟩:=Y [] h;exact⟨U,_,⟨wG M,M,λq z=>by simpa using z,λq z=>z⟩,X⟩
 |some jw =>
  obtain⟨j,O⟩:=jw;simp only[hg]at h;split at h
  ·rename_i t Z;have H:∀ d,o.dst=some d->d∈o.dst.toList:=λd hd=>by simp[hd]
   split at h
   ·rename_i b u J;have hl:∀ b',b'=b->lit st t b'=st:=λb' e=>pg u (by rw[J,e])
    cases b with
    |true =>
     simp only[cond_true,hl true rfl]at h;cases O with
     |true =>
      simp only[cond_true]at h;obtain⟨U,M,X⟩:=Y [t] h;exact⟨U,_,⟨wG M,t,Z,by simp,.inl ⟨true,u,J,.inl ⟨rfl,M,λq z=>BH _ z,λq z=>z⟩⟩⟩,X⟩
     |false =>
      simp only[cond_false]at h;exact⟨eQ st o,_,⟨y,t,Z,by simp,.inl ⟨true,u,J,.inr ⟨by simp,rfl,H⟩⟩⟩,h⟩
    |false =>
     simp only[cond_false,hl false rfl]at h;cases O with
     |true =>
      simp only[cond_true]at h;exact⟨eQ st o,_,⟨y,t,Z,by simp,.inl ⟨false,u,J,.inr ⟨by simp,rfl,H⟩⟩⟩,h⟩
     |false =>
      simp only[cond_false]at h;obtain⟨U,M,X⟩:=Y [t] h;exact⟨U,_,⟨wG M,t,Z,by simp,.inl ⟨false,u,J,.inl ⟨rfl,M,λq z=>BH _ z,λq z=>z⟩⟩⟩,X⟩
   ·rename_i u;exact⟨eQ st o,_,⟨y,t,Z,by simp,.inr ⟨u,rfl,H⟩⟩,h⟩
   ·cases h
  ·cases h
theorem vp {U:Upd}(e:U=eQ st o)(u:∀ d,o.dst=some d->st' d=st d):U=eQ st' o:=by
 rw[e];unfold eQ;cases r:o.dst with
 |none=>rfl
 |some d=>simp only[u d r]
theorem jO.frame {U:Upd}{t:cK}(h:jO Γ T all o st U t)(u:∀ q,q∈t.rd\/q∈t.wr->st' q=st q)(hh:∀ q∈t.hd,bK (st' q)=bK (st q)):mw Γ T all o st' U:=by
 obtain⟨_,h⟩:=h;have r:act Γ T o st some=some U->(∀ q∈fy st o,q∈t.rd)->(∀ q∈fa st o.op,q∈t.hd)->act Γ T o st' some=some U:=by
  intro h1 I y;rw[Bt (λq z=>u q (.inl (I q z))) (λq z=>hh q (y q z))];exact h1
 unfold mw;cases hg:o.guard with
 |none =>
  rw[hg]at h;exact r h.1 h.2.1 h.2.2
 |some jw =>
  obtain⟨j,a1⟩:=jw;rw[hg]at h;obtain⟨s,h1,I,y⟩:=h;have Z:=u s (.inl I);refine⟨s,h1,?_⟩;rw[Z];rcases y with ⟨b,M,Y,h6⟩|⟨M,Y,h6⟩
  ·refine .inl ⟨b,M,Y,?_⟩;rcases h6 with ⟨O,J,H,a0⟩|⟨O,J,H⟩
   ·exact .inl ⟨O,r J H a0⟩
   ·exact .inr ⟨O,vp J (λd X=>u d (.inr (H d X)))⟩
  ·exact .inr ⟨M,vp Y (λd X=>u d (.inr (h6 d X)))⟩
theorem wH (hV:ax V)(hT:TOk P T)(hΓ:∀ c∈Γ,bP P c){ops:Array Oper}{i:Nat}(hi:ops[i]?=some o)(M:bN V o)(z:∀ j u,o.guard=some (j,u)->∀ s,(ops[j]?).bind (·.dst)=some s->s<V.nt)
  {U:Upd} (h:mw Γ T ops o st U) {a:Act} {w:World} (H:Rel P V st a w) {K:Act->World->Prop} {Q:Exit->Act->World->Prop} (hK:∀ a' w',Rel P V (ac U st) a' w'->K a' w'):wpOp P ops Q i K a w:=by
 obtain⟨W,H⟩:=H;unfold wpOp;simp only[hi];have a0:act Γ T o st some=some U->o.wp P a w K Q:=by
  intro h1;obtain⟨U',h2,X⟩:=Bs hV hT hΓ M h1;cases h2;exact X W a w H K Q hK
 have y:U=eQ st o->K (a.put o.dst undef) w:=by
  intro e;refine hK _ _ ?_;subst e;unfold eQ;cases hd:o.dst with
  |none=>exact⟨W,H⟩
  |some d=>exact H.putLs hV d (M d hd).1 (M d hd).2 _ .und [] undef [] (CM _) ⟨rfl,rfl⟩ trivial
 unfold mw at h;cases O:o.guard with
 |none =>
  rw[O]at h;have J:Region.wanted o (yielded ops a.tmps)=true:=by simp[Region.wanted,O]
  rw[if_pos J];exact .inl (a0 h)
 |some jw =>
  obtain⟨j,u⟩:=jw;rw[O]at h;obtain⟨s,h1,h2⟩:=h;have Z:=z j u O s h1;have a1:s<GH:=Cx Z hV.nt;have r:=H.slots s a1;have a2:s<a.tmps.size:=by rw[H.nt];exact Z
  have I:a.tmps[s]?=some (a.tmps.getD s undef):=by
   rw[BQ,BP a2];rfl
  rcases h2 with ⟨b,X,h4,h5⟩|⟨X,h5⟩
  ·have Y:=H.len s;rw[h4]at Y;rw[X]at r;have r:W.cs s=[a.tmps.getD s undef]:=r;have hv:=H.leaf s 0 (.bool b) (a.tmps.getD s undef) (by rw[h4];rfl) (by rw[r];rfl);have hv:a.tmps.getD s undef=.bool b:=hv;have hy:yielded ops a.tmps j=some b:=by simp[yielded,h1,I,hv]
   rcases h5 with ⟨rfl,h6⟩|⟨h6,h7⟩
   ·have J:Region.wanted o (yielded ops a.tmps)=true:=by simp[Region.wanted,O,hy]
    rw[if_pos J];exact .inl (a0 h6)
   ·have J:Region.wanted o (yielded ops a.tmps)=false:=by
     simp only[Region.wanted,O,hy];cases b <;> cases u <;> simp at h6 <;> rfl
    rw[J];exact y h7
  ·rw[X]at r;obtain⟨hv,_⟩:=r;have hy:yielded ops a.tmps j=none:=by
    unfold yielded;rw[h1,CI,I,hv];rfl
   have J:Region.wanted o (yielded ops a.tmps)=false:=by simp[Region.wanted,O,hy]
   rw[J];exact y h5
def Run (Γ:List Ctr)(T:TypeId->TI)(all:Array Oper):St->List Oper->List Upd->List cK->St->Prop
 |st,[],[],[],st'=>st'=st
 |st,o::y,U::r,t::u,st'=>jO Γ T all o st U t/\Run Γ T all (ac U st) y r u st'
 |_,_,_,_,_=>False
theorem ph:∀ (H:List Oper) (st:St) (z:List cK) (y:St->List cK->Option R) (r:R),qm Γ T all H st z y=some r ->
  ∃ I u st',Run Γ T all st H I u st'/\y st' (z++u)=some r
 |[],st,z,y,r,h=>⟨[],[],st,rfl,by simpa[qm]using h⟩
 |o::H,st,z,y,r,h=>by
  simp only[qm]at h;obtain⟨U,t,X,O⟩:=AJ h;obtain⟨I,u,st',M,J⟩:=ph H (ac U st) (z++[t]) y r O;exact⟨U::I,t::u,st',⟨X,M⟩,by rw[CA]at J;exact J⟩
theorem jO.res {U:Upd}{t:cK}(h:jO Γ T all o st U t):mw Γ T all o st U:=h.frame (λ_ _=>rfl) (λ_ _=>rfl)
theorem vq (X:ax V)(Y:TOk P T)(hΓ:∀ c∈Γ,bP P c){ops:Array Oper}(z:∀ (i:Nat) (o:Oper),ops[i]?=some o->bN V o)
  (r:∀ (i:Nat) (o:Oper),ops[i]?=some o->∀ j u,o.guard=some (j,u)->∀ s,(ops[j]?).bind (·.dst)=some s->s<V.nt) {Q:Exit->Act->World->Prop} :
  ∀ (y:List Oper) (k:Nat) (st:St) (us:List Upd) (J:List cK) (st':St),ops.toList.drop k=y->Run Γ T ops st y us J st'->(∀ a w,Rel P V st' a w->Q .normal a w) ->
   ∀ a w,Rel P V st a w->wpOps P ops Q (List.range' k y.length) a w
 |[],k,st,[],[],st',_,h,H,a,w,I=>by
  have h:st'=st:=h;subst h;exact H a w I
 |o::y,k,st,U::us,t::J,st',Z,h,H,a,w,I=>by
  obtain⟨h1,h2⟩:=h;have O:ops[k]?=some o:=by
   have:(ops.toList.drop k)[0]?=some o:=by rw[Z];rfl
   rw[List.getElem?_drop]at this;simpa using this
  rw[CJ,List.range'_succ,wpOps_cons];refine wH X Y hΓ O (z k o O) (r k o O) h1.res I (λa' w' M=>?_);exact vq X Y hΓ z r y (k+1) (ac U st) us J st' (by rw[<- Cm,Z];rfl) h2 H a' w' M
end
section
variable {P:Program} {V:Env} {Γ:List Ctr} {T:TypeId->TI} {st st':St} {o:Oper} {R:Type} {all:Array Oper}
def dj (D:Nat->Bool):List Upd->St->St
 |[],st=>st
 |U::r,st=>dj (λj=>D (j+1)) r (bif D 0 then ac U st else st)
theorem jp {q:Nat}:∀ {U:Upd} (s u:St),q∈U.map (·.1)->ac U s q=ac U u q
 |[],_,_,h=>by simp at h
 |(r,c)::U,s,u,h=>by
  simp only[ac];cases y:BM q r with
  |true=>rfl
  |false =>
   simp only[cond_false];refine jp s u ?_;simp only[B4,BR]at h;rcases h with rfl|h
   ·simp at y
   ·exact h
theorem eP {q:Nat}:∀ {U:Upd} (s:St),q∉U.map (·.1)->ac U s q=s q
 |[],_,_=>rfl
 |(r,c)::U,s,h=>by
  simp only[B4,BR,not_or]at h;have u:BM q r=false:=by
   cases u:BM q r with
   |false=>rfl
   |true=>exact absurd (BK u) h.1
  simp only[ac,u,cond_false];exact eP s h.2
theorem yd {U r:Upd}(h:∀ q,q∈U.map (·.1)->q∉r.map (·.1))(s:St):ac r (ac U s)=ac U (ac r s):=by
 funext q;by_cases u:q∈U.map (·.1)
 ·rw[eP _ (h q u)];exact jp _ _ u
 ·rw[eP (U:=U) _ u];by_cases y:q∈r.map (·.1)
  ·exact jp _ _ y
  ·rw[eP _ y,eP _ y,eP _ u]
theorem my:∀ {us:List Upd} {D D':Nat->Bool} {s:St},(∀ j,j<us.length->D j=D' j)->dj D us s=dj D' us s
 |[],_,_,_,_=>rfl
 |U::us,D,D',s,h=>by
  simp only[dj];rw[h 0 (by simp)];exact my (λj r=>h (j+1) (by simpa using r))
theorem nE:∀ {us:List Upd} {D:Nat->Bool} {s:St},(∀ j,D j=false)->dj D us s=s
 |[],_,_,_=>rfl
 |U::us,D,s,h=>by
  simp only[dj,h 0,cond_false];exact nE (λj=>h (j+1))
theorem mz {q:Nat}:∀ {us:List Upd} {D D':Nat->Bool} {s r:St},s q=r q->(∀ (j:Nat) (U:Upd),us[j]?=some U->q∈U.map (·.1)->D j=D' j)->dj D us s q=dj D' us r q
 |[],_,_,_,_,h,_=>h
 |U::us,D,D',s,r,h,H=>by
  simp only[dj];refine mz ?_ (λj z M J=>H (j+1) z (by simpa using M) J);by_cases u:q∈U.map (·.1)
  ·rw[H 0 U rfl u];cases D' 0 with
   |true=>exact jp _ _ u
   |false=>exact h
  ·have y:∀ b:Bool,(bif b then ac U s else s) q=s q:=by intro b;cases b <;> simp[eP _ u]
   have I:∀ b:Bool,(bif b then ac U r else r) q=r q:=by intro b;cases b <;> simp[eP _ u]
   rw[y,I,h]
theorem nF {U:Upd}:∀ {us:List Upd} {D:Nat->Bool} {s:St},(∀ (j:Nat) (u:Upd),us[j]?=some u->D j=true->∀ q,q∈U.map (·.1)->q∉u.map (·.1))->dj D us (ac U s)=ac U (dj D us s)
 |[],_,_,_=>rfl
 |u::us,D,s,h=>by
  simp only[dj];cases H:D 0 with
  |true =>
   simp only[cond_true];rw[yd (h 0 u rfl H)];exact nF (λj r z y=>h (j+1) r (by simpa using z) y)
  |false =>
   simp only[cond_false];exact nF (λj r z y=>h (j+1) r (by simpa using z) y)
theorem oE {U:Upd}:∀ {us:List Upd} {i:Nat} {D D':Nat->Bool} {s:St},us[i]?=some U->D i=false->(∀ j,D' j=(D j||BM j i)) ->
  (∀ (j:Nat) (u:Upd),us[j]?=some u->i<j->D j=true->∀ q,q∈U.map (·.1)->q∉u.map (·.1))->dj D' us s=ac U (dj D us s)
 |[],i,_,_,_,h,_,_,_=>by simp at h
 |V::us,0,D,D',s,h,z,r,H=>by
  simp at h;subst h;simp only[dj];have y:D' 0=true:=by rw[r 0];simp
  rw[y,z];simp only[cond_true,cond_false];have e:dj (λj=>D' (j+1)) us (ac V s)=dj (λj=>D (j+1)) us (ac V s):=my (λj _=>by rw[r (j+1)];simp[BM]);rw[e];exact nF (λj u I J=>H (j+1) u (by simpa using I) (by omega) J)
 |V::us,i+1,D,D',s,h,z,r,H=>by
  simp only[dj];have y:D' 0=D 0:=by rw[r 0];simp[BM]
  rw[y];exact oE (i:=i) (by simpa using h) z (λj=>by rw[r (j+1)];simp[BM]) (λj u I J M=>H (j+1) u (by simpa using I) (by omega) M)
theorem qP:∀ {r:List Oper} {us:List Upd} {u:List cK} {s H:St},Run Γ T all s r us u H->∀ (i:Nat) (o:Oper),r[i]?=some o ->
  ∃ U t,us[i]?=some U/\u[i]?=some t/\jO Γ T all o (dj (λj=>decide (j<i)) us s) U t
 |[],_,_,_,_,_,i,o,h=>by simp at h
 |z::r,[],_,_,_,h,_,_,_=>h.elim
 |z::r,_::_,[],_,_,h,_,_,_=>h.elim
 |z::r,U::us,t::u,s,H,h,0,o,y=>by
  simp at y;subst y;exact⟨U,t,rfl,rfl,by rw[nE (λj=>by simp)];exact h.1⟩
 |z::r,U::us,t::u,s,H,h,i+1,o,y=>by
  obtain⟨O,M,X,J,I⟩:=qP h.2 i o (by simpa using y);refine⟨O,M,by simpa using X,by simpa using J,?_⟩;simp only[dj];have e:(λj=>decide (j+1<i+1))=λj=>decide (j<i):=by funext j;simp
  rw[e];simpa using I
theorem vr:∀ {r:List Oper} {us:List Upd} {y:List cK} {s u:St},Run Γ T all s r us y u->us.length=r.length/\y.length=r.length/\u=dj (λ_=>true) us s
 |[],[],[],_,_,h=>⟨rfl,rfl,h⟩
 |[],_::_,_,_,_,h=>h.elim
 |[],[],_::_,_,_,h=>h.elim
 |_::_,[],_,_,_,h=>h.elim
 |_::_,_::_,[],_,_,h=>h.elim
 |o::r,U::us,t::y,s,u,h=>by
  obtain⟨I,H,z⟩:=vr h.2;exact⟨by simp[I],by simp[H],by simpa[dj]using z⟩
theorem qQ {q:Nat}:∀ {os:List Oper} {us:List Upd} {M:List cK} {J s':St} {D:Nat->Bool} {F:Nat->Bool} {s sF:St} {B:Prop},Run Γ T all J os us M s'->(∀ (j:Nat) (t:cK),M[j]?=some t->F j=decide (q∈t.wr)) ->
  bK (s q)=bK (sF q)->(B->bK (sF q)=bK (J q)) ->
  (∀ (j:Nat) (t:cK) (U:Upd),M[j]?=some t->us[j]?=some U->D j=true->q∉t.wr->q∈U.map (·.1)->B/\∀ (k:Nat) (t':cK),k<j->M[k]?=some t'->q∈t'.wr->D k=true) ->
  bK (dj D us s q)=bK (dj (λj=>D j&&F j) us sF q)
 |[],[],[],_,_,_,_,_,_,_,_,_,O,_,_=>O
 |[],_::_,_,_,_,_,_,_,_,_,h,_,_,_,_=>h.elim
 |[],[],_::_,_,_,_,_,_,_,_,h,_,_,_,_=>h.elim
 |_::_,[],_,_,_,_,_,_,_,_,h,_,_,_,_=>h.elim
 |_::_,_::_,[],_,_,_,_,_,_,_,h,_,_,_,_=>h.elim
 |o::os,U::us,t::M,J,s',D,F,s,sF,B,h,hF,O,Y,H=>by
  obtain⟨⟨⟨k1,k2,k3⟩,_⟩,I⟩:=h;have y:=hF 0 t rfl;simp only[dj];refine qQ (F:=λj=>F (j+1)) (B:=B/\(q∈t.wr->D 0=true)) I (λj t' ht=>hF (j+1) t' (by simpa using ht)) ?_ ?_ ?_
  ·by_cases r:q∈U.map (·.1)
   ·by_cases u:q∈t.wr
    ·rw[y,decide_eq_true u,Ce];cases D 0 with
     |true=>simp only[cond_true];rw[jp s sF r]
     |false=>exact O
    ·rw[y,decide_eq_false u,CX];simp only[cond_false];cases z:D 0 with
     |true =>
      simp only[cond_true];rw[jp s J r,k3 q r u];exact (Y (H 0 t U rfl rfl z u r).1).symm
     |false=>exact O
   ·have e:∀ (b:Bool) (x:St),(bif b then ac U x else x) q=x q:=by intro b x;cases b <;> simp[eP _ r]
    rw[e,e];exact O
  ·rintro⟨hB,z⟩;by_cases r:q∈U.map (·.1)
   ·by_cases u:q∈t.wr
    ·rw[y,decide_eq_true u,Ce,z u];simp only[cond_true];rw[jp sF J r]
    ·rw[y,decide_eq_false u,CX];simp only[cond_false];rw[k3 q r u];exact Y hB
   ·have e:∀ (b:Bool) (x:St),(bif b then ac U x else x) q=x q:=by intro b x;cases b <;> simp[eP _ r]
    rw[e,eP _ r];exact Y hB
  ·intro j t' U' ht hU z u r;obtain⟨g1,g2⟩:=H (j+1) t' U' (by simpa using ht) (by simpa using hU) z u r;exact⟨⟨g1,λZ=>g2 0 t (by omega) rfl Z⟩,λk t2 hk a0 X=>g2 (k+1) t2 (by omega) (by simpa using a0) X⟩
theorem rM {f:Nat->Nat}{i:Nat}:∀ (l:List Edge) (s:Nat),(l.foldl (λs e=>bif Region.binds .any e then s ||| 2 ^ e.on ||| f e.on else s) s).testBit i=true ->
  s.testBit i=true\/∃ e∈l,Region.binds .any e=true/\(i=e.on\/(f e.on).testBit i=true)
 |[],s,h=>.inl h
 |e::l,s,h=>by
  simp only[DA]at h;rcases rM l _ h with h|⟨u,z,y⟩
  ·cases r:Region.binds .any e with
   |false=>rw[r]at h;exact .inl h
   |true =>
    rw[r]at h;simp only[cond_true,Nat.testBit_or,CT]at h;rcases h with (h|h)|h
    ·exact .inl h
    ·refine .inr ⟨e,BJ ..,r,.inl ?_⟩;rw[Nat.testBit_two_pow]at h;exact (of_decide_eq_true h).symm
    ·exact .inr ⟨e,BJ ..,r,.inr h⟩
  ·exact .inr ⟨u,BI _ z,y⟩
theorem tT:∀ (z:List Oper) (r:List Nat),(∀ j,j<r.length->(jP z r).getD j 0=r.getD j 0) /\
  ∀ (k:Nat) (o:Oper),z[k]?=some o->∃ u:List Nat,u.length=r.length+k/\(∀ j,j<u.length->u.getD j 0=(jP z r).getD j 0) /\
   (jP z r).getD (r.length+k) 0=o.after.toList.foldl (λs e=>bif Region.binds .any e then s ||| 2 ^ e.on ||| u.getD e.on 0 else s) 0
 |[],r=>⟨λ_ _=>rfl,λk o h=>by simp at h⟩
 |o::z,r=>by
  obtain⟨I,X⟩:=tT z (r++[o.after.toList.foldl (λs e=>bif Region.binds .any e then s ||| 2 ^ e.on ||| r.getD e.on 0 else s) 0]);have y:∀ j,j<r.length->(jP (o::z) r).getD j 0=r.getD j 0:=by
   intro j H;simp only[jP];rw[I j (by simp;omega)];simp[BS,B7 H]
  refine⟨y,λk M h=>?_⟩;cases k with
  |zero =>
   simp at h;subst h;refine⟨r,rfl,λj H=>(y j H).symm,?_⟩;simp only[jP];rw[Nat.add_zero,I r.length (by simp)];simp[BS]
  |succ k =>
   obtain⟨u,J,Y,O⟩:=X k M (by simpa using h);refine⟨u,by simp at J;omega,λj H=>Y j H,?_⟩;simp only[jP];have e:r.length+(k+1)=(r++[o.after.toList.foldl (λs e=>bif Region.binds .any e then s ||| 2 ^ e.on ||| r.getD e.on 0 else s) 0]).length+k:=by simp;omega
   rw[e];exact O
theorem jz {ops:Array Oper}{D:Nat->Prop}(z:∀ (j:Nat) (o:Oper),ops[j]?=some o->D j->∀ e∈o.after.toList,Region.binds .any e=true->D e.on) :
  ∀ (n j:Nat),j<n->∀ (o:Oper),ops[j]?=some o->(∀ e∈o.after.toList,Region.binds .any e=true->D e.on)->∀ i,((jP ops.toList []).getD j 0).testBit i=true->D i
 |0,_,h,_,_,_,_,_=>by omega
 |n+1,j,hj,o,X,J,i,Y=>by
  obtain⟨r,h1,Z,I⟩:=(tT ops.toList []).2 j o (by simpa using X);simp only[List.length_nil,CN]at h1 I;rw[I]at Y;rcases rM (f:=λk=>r.getD k 0) _ _ Y with h|⟨e,M,O,y⟩
  ·simp at h
  ·rcases y with rfl|y
   ·exact J e M O
   ·have H:e.on<r.length:=by
     apply B8;intro hn;have:r.getD e.on 0=0:=by
      rw[BS,Ck (by omega)];rfl
     rw[this]at y;simp at y
    rw[Z _ H]at y;have hD:=J e M O;have u:e.on<ops.size:=by
     have:=(CY.1 X).1;omega
    exact jz z n e.on (by omega) ops[e.on] (BP u) (z e.on _ (BP u) hD) i y
theorem fW {a b:List Nat}(h:lW a b=false){q:Nat}(r:q∈a):q∉b:=by
 intro u;unfold lW at h;rw[Cc]at h;have:=h q r;simp only[CS,not_exists,not_and]at this;exact this q u (by simp)
theorem lw {r:List Nat}{z:List cK}(h:pu r z=true){i j:Nat}(u:i<j){x y:cK}(O:z[i]?=some x)(H:z[j]?=some y):(r.getD j 0).testBit i=true\/x.apart y=true:=by
 unfold pu at h;rw[B3]at h;have M:=(BN.1 H).1;have J:=h j (by simpa using M);rw[B3]at J;have I:=J i (by simpa using u);simp only[O,H,CT]at I;exact I
theorem qi {p p':Nat->Bool}{i:Nat}(I:p i=true)(r:p' i=false)(h:∀ j,j≠i->p' j=p j):∀ (l:List Nat),l.Nodup->i∈l->l.countP p'+1=l.countP p
 |[],_,H=>by simp at H
 |x::l,u,H=>by
  rw[CE]at u;by_cases z:x=i
  ·subst z;have e:l.countP p'=l.countP p:=by
    apply List.countP_congr;intro y J;rw[h y (λe=>u.1 (e ▸ J))]
   simp[I,r,e]
  ·have M:=qi I r h l u.2 ((BR.1 H).resolve_left (λe=>z e.symm));simp only[C6,h x z];omega
theorem Bu (hV:ax V)(hT:TOk P T)(hΓ:∀ c∈Γ,bP P c){ops:Array Oper}(e6:∀ (i:Nat) (o:Oper),ops[i]?=some o->bN V o)
  (b9:∀ (i:Nat) (o:Oper),ops[i]?=some o->∀ j cu,o.guard=some (j,cu)->∀ s,(ops[j]?).bind (·.dst)=some s->s<V.nt) {Q:Exit->Act->World->Prop}
  {us:List Upd} {ts:List cK} {s0 s1:St} (a1:Run Γ T ops s0 ops.toList us ts s1) (a4:nK ops=true) (c1:pu (jP ops.toList []) ts=true) (hQ:∀ a w,Rel P V s1 a w->Q .normal a w) :
  ∀ (a0:Nat) (r:Array Bool) (a:Act) (w:World),r.size=ops.size->(DC ops.size).countP (λi=>!r.getD i true)=a0 ->
   (∀ (j:Nat) (o:Oper),ops[j]?=some o->r.getD j false=true->∀ e∈o.after.toList,Region.binds .any e=true->r.getD e.on false=true) ->
   Rel P V (dj (λj=>r.getD j false) us s0) a w->wpAny P .any ops Q a0 r a w:=by
 obtain⟨eg,em,d1⟩:=vr a1;have ef:ops.toList.length=ops.size:=Cr;have bl:∀ (r:Array Bool),r.size=ops.size->Region.ready .any ops r=[]->∀ i,i<ops.size->r.getD i false=true:=by
  intro r a2 hr i;induction i using DB with
  |ind i ih =>
   intro hi;cases hl:r.getD i false with
   |true=>rfl
   |false =>
    exfalso;have e4:r.getD i true=false:=by
     rw[BQ,BP (by omega)]at hl ⊢;exact hl
    have ho:ops[i]?=some ops[i]:=BP hi;have bn:i∈Region.ready .any ops r:=by
     unfold Region.ready;rw[CO];refine⟨by simpa using hi,?_⟩;rw[e4,ho];simp only[DD,Cv,B6,C7];rw[CQ];intro e he;cases ec:Region.binds .any e with
     |false=>rfl
     |true =>
      simp only[Bool.not_true,Bool.false_or];have ba:e.on<i:=by
       unfold nK at a4;rw[B3]at a4;have:=a4 i (by simpa using hi);simp only[ho]at this;rw[B3]at this;have:=this e (by simpa using he);simpa[ec]using this
      exact ih e.on ba (by omega)
    rw[hr]at bn;simp at bn
 have bx:∀ (r:Array Bool) (a:Act) (w:World),r.size=ops.size->Rel P V (dj (λj=>r.getD j false) us s0) a w->Region.ready .any ops r=[]->Q .normal a w:=by
  intro r a w a2 hr bb;refine hQ a w ?_;rw[d1];have:dj (λ_=>true) us s0=dj (λj=>r.getD j false) us s0:=my (λj J=>(bl r a2 bb j (by omega)).symm);rw[this];exact hr
 intro a0;induction a0 with
 |zero =>
  intro r a w a2 X b2 hr;have bb:Region.ready .any ops r=[]:=by
   unfold Region.ready;rw[List.filter_eq_nil_iff];intro i hi hc;rw[Cs]at X;have:=X i hi;simp only[BF]at hc;exact this hc.1
  exact⟨bb,bx r a w a2 hr bb⟩
 |succ a0 ih =>
  intro r a w a2 X b2 hr;refine⟨bx r a w a2 hr,λi hi=>?_⟩;unfold Region.ready at hi;rw[CO]at hi;obtain⟨b3,c4⟩:=hi;have b3:i<ops.size:=by simpa using b3
  have ho:ops[i]?=some ops[i]:=BP b3;rw[ho]at c4;simp only[BF,CH,B6,C7]at c4;obtain⟨b4,a9⟩:=c4;rw[CQ]at a9;have O:r.getD i false=false:=by
   rw[BQ,BP (by omega)]at b4 ⊢;exact b4
  have dd:∀ e∈(ops[i]).after.toList,Region.binds .any e=true->r.getD e.on false=true:=by
   intro e he hb;have:=a9 e (by simpa using he);simpa[hb]using this
  obtain⟨U,t,hU,ht,b5⟩:=qP a1 i ops[i] (by simp);have b1:∀ (j:Nat) (o:Oper),ops[j]?=some o->(λk=>r.getD k false=true) j->∀ e∈o.after.toList,Region.binds .any e=true->(λk=>r.getD k false=true) e.on:=b2;obtain⟨e5,_,_⟩:=b5.1;have Y:∀ (j:Nat) (M:Upd),us[j]?=some M->∃ H,ts[j]?=some H/\(∀ q∈M.map (·.1),q∈H.wr\/q∈H.cw)/\∀ q∈H.wr,q∈M.map (·.1):=by
   intro j M J;have a5:j<ops.size:=by
    have:=(BN.1 J).1;omega
   obtain⟨U2,t2,h1,Z,h3⟩:=qP a1 j ops[j] (by simp[a5]);rw[J]at h1;cases h1;exact⟨t2,Z,h3.1.1,h3.1.2.1⟩
  have cy:∀ (j:Nat) (M:Upd),us[j]?=some M->j≠i->r.getD j false≠decide (j<i)->∃ H,ts[j]?=some H/\(∀ q∈M.map (·.1),q∈H.wr\/q∈H.cw)/\(H.apart t=true\/t.apart H=true):=by
   intro j M J b0 u;obtain⟨H,h1,Z,_⟩:=Y j M J;refine⟨H,h1,Z,?_⟩;rcases Nat.lt_or_gt_of_ne b0 with ba|ed
   ·have hl:r.getD j false=false:=by
     cases hl:r.getD j false with
     |false=>rfl
     |true=>rw[hl]at u;simp[ba]at u
    rcases lw c1 ba h1 ht with h3|h3
    ·have:=jz b1 (i+1) i (CM _) ops[i] ho dd j h3;rw[hl]at this;cases this
    ·exact .inl h3
   ·have hl:r.getD j false=true:=by
     cases hl:r.getD j false with
     |true=>rfl
     |false=>rw[hl]at u;simp at u;omega
    have a5:j<ops.size:=by
     have:=(BN.1 J).1;omega
    have ad:ops[j]?=some ops[j]:=BP a5;rcases lw c1 ed ht h1 with h3|h3
    ·have:=jz b1 (j+1) j (CM _) ops[j] ad (b2 j _ ad hl) i h3;rw[O]at this;cases this
    ·exact .inr h3
  have a3:∀ (x y:cK),x.apart y=true->(∀ q,q∈x.wr\/q∈x.cw->(q∉y.wr/\q∉y.cw)/\q∉y.rd)/\(∀ q,q∈y.wr\/q∈y.cw->(q∉x.wr/\q∉x.cw)/\q∉x.rd)/\(∀ q∈x.wr,q∉y.hd)/\∀ q∈y.wr,q∉x.hd:=by
   intro x y h;unfold cK.apart at h;simp only[BF,CH]at h;obtain⟨⟨⟨⟨h1,Z⟩,h3⟩,h4⟩,h5⟩:=h;refine⟨λq I=>?_,λq I=>?_,λq I=>fW h4 I,λq I hx=>fW h5 hx I⟩
   ·have I:=BE.2 I;have:=fW h1 I;simp only[BE,not_or]at this;exact⟨this,fW Z I⟩
   ·have I:=BE.2 I;have:q∉x.wr++x.cw:=λhx=>fW h1 hx I
    simp only[BE,not_or]at this;exact⟨this,λhx=>fW h3 hx I⟩
  have c0:∀ (j:Nat) (M:Upd),us[j]?=some M->j≠i->r.getD j false≠decide (j<i)->∀ q∈M.map (·.1),(q∉t.wr/\q∉t.cw)/\q∉t.rd:=by
   intro j M J b0 u q I;obtain⟨H,_,h1,Z⟩:=cy j M J b0 u;rcases Z with Z|Z
   ·exact (a3 _ _ Z).1 q (h1 q I)
   ·exact (a3 _ _ Z).2.1 q (h1 q I)
  have c2:∀ (j:Nat) (H:cK),ts[j]?=some H->j≠i->r.getD j false≠decide (j<i)->∀ q∈H.wr,q∉t.hd:=by
   intro j H J b0 u q I;have a5:j<us.length:=by
    have:=(BN.1 J).1;omega
   obtain⟨t2,h0,_,Z⟩:=cy j us[j] (BU a5) b0 u;rw[J]at h0;cases h0;rcases Z with Z|Z
   ·exact (a3 _ _ Z).2.2.1 q I
   ·exact (a3 _ _ Z).2.2.2 q I
  have dc:mw Γ T ops ops[i] (dj (λj=>r.getD j false) us s0) U:=by
   refine b5.frame (λq I=>?_) (λq I=>?_)
   ·refine mz rfl λj M J cx=>?_
    by_cases z:j=i
    ·subst z;rw[O];simp
    ·apply B8;intro u;have:=c0 j M J z u q cx;rcases I with I|I
     ·exact this.2 I
     ·exact this.1.1 I
   ·have cc:∀ (j:Nat) (H:cK),ts[j]?=some H->(λj=>match ts[j]? with|some H=>decide (q∈H.wr)|none=>false) j=decide (q∈H.wr):=λj H h=>by simp only[h]
    have e1:=qQ (q:=q) (D:=λj=>r.getD j false) (F:=λj=>match ts[j]? with|some H=>decide (q∈H.wr)|none=>false) (s:=s0) (sF:=s0) (B:=True) a1 cc rfl (λ_=>rfl) (λj H M J hU hD hw d2=>by
     refine⟨trivial,λk t2 hk d3 cb=>?_⟩;obtain⟨t3,h3,h4,_⟩:=Y j M hU;rw[J]at h3;cases h3;have e3:=(h4 q d2).resolve_left hw;have a5:j<ops.size:=by
      have:=(BN.1 hU).1;omega
     have ad:ops[j]?=some ops[j]:=BP a5;rcases lw c1 hk d3 J with h5|h5
     ·exact jz b1 (j+1) j (CM _) ops[j] ad (b2 j _ ad hD) k h5
     ·exact absurd e3 ((a3 _ _ h5).1 q (.inl cb)).1.2)
    have e2:=qQ (q:=q) (D:=λj=>decide (j<i)) (F:=λj=>match ts[j]? with|some H=>decide (q∈H.wr)|none=>false) (s:=s0) (sF:=s0) (B:=True) a1 cc rfl (λ_=>rfl) (λj H M J hU hD hw d2=>by
     refine⟨trivial,λk t2 hk d3 cb=>?_⟩;have:=of_decide_eq_true hD;exact decide_eq_true (by omega))
    rw[e1,e2];congr 1;refine mz rfl λj M J cx=>?_
    obtain⟨H,h1,Z,_⟩:=Y j M J;simp only[h1];by_cases hw:q∈H.wr
    ·rw[decide_eq_true hw,Ce,Ce];by_cases z:j=i
     ·subst z;rw[O];simp
     ·apply B8;intro u;exact c2 j H h1 z u q hw I
    ·rw[decide_eq_false hw,CX,CX]
  refine wH hV hT hΓ ho (e6 i _ ho) (b9 i _ ho) dc hr λa' w' e7=>?_
  have a6:∀ (b:Bool) (j:Nat),(r.setIfInBounds i true).getD j b=if j=i then true else r.getD j b:=by
   intro b j;simp only[BQ,Array.getElem?_setIfInBounds];by_cases z:j=i
   ·subst z;simp[a2,b3]
   ·rw[if_neg (λe=>z e.symm),if_neg z]
  refine ih _ a' w' (by simpa using a2) ?_ ?_ ?_
  ·have:=qi (p:=λj=>!r.getD j true) (p':=λj=>!(r.setIfInBounds i true).getD j true) (i:=i) (by simp[b4]) (by simp[a6]) (λj J=>by simp[a6,J]) (DC ops.size) List.nodup_range (by simpa using b3);omega
  ·intro j o' J c3 e he hb;rw[a6]at c3 ⊢;by_cases e0:e.on=i
   ·rw[if_pos e0]
   ·rw[if_neg e0];by_cases z:j=i
    ·subst z;rw[ho]at J;cases J;exact dd e he hb
    ·rw[if_neg z]at c3;exact b2 j o' J c3 e he hb
  ·have cp:=oE (U:=U) (us:=us) (i:=i) (D:=λj=>r.getD j false) (D':=λj=>(r.setIfInBounds i true).getD j false) (s:=s0) hU O (λj=>by
     simp only[a6];by_cases z:j=i
     ·subst z;simp
     ·have:BM j i=false:=by
       cases hb:BM j i with
       |false=>rfl
       |true=>exact absurd (BK hb) z
      simp[z,this])
    (λj M J ej hD q I eb=>by
     have:=c0 j M J (by omega) (by rw[hD];simp;omega) q eb;exact (e5 q I).elim this.1.1 this.1.2)
   rw[cp];exact e7
theorem Bv (Z:ax V)(hT:TOk P T)(hΓ:∀ c∈Γ,bP P c)(J:P.follows .mixedOrders=true){id:Nat}{ops:Array Oper}{y:Bool}(O:∀ (i:Nat) (o:Oper),ops[i]?=some o->bN V o)
  (u:∀ (i:Nat) (o:Oper),ops[i]?=some o->∀ j M,o.guard=some (j,M)->∀ s,(ops[j]?).bind (·.dst)=some s->s<V.nt) {Q:Exit->Act->World->Prop} {κ:St->Option R} {r:R}
  (h:regK Γ T ops y st κ=some r) (hκ:∀ H,κ H=some r->∀ a w,Rel P V H a w->Q .normal a w) {a:Act} {w:World} (Y:Rel P V st a w):(Code.region id ops y).wp P Q a w:=by
 unfold regK at h;cases y with
 |true =>
  simp only[cond_true]at h;obtain⟨us,ts,H,z,I⟩:=ph _ _ _ _ _ h;simp only[CC]at I;cases X:nK ops&&pu (jP ops.toList []) ts with
  |false=>simp[X]at I
  |true =>
   simp only[X,cond_true]at I;simp only[BF]at X;refine wp_region_any J ?_;have hD:∀ j,(CF ops.size false).getD j false=false:=by
    intro j;simp only[BQ,Cf];split <;> rfl
   refine Bu Z hT hΓ O u z X.1 X.2 (hκ H I) ops.size (CF ops.size false) a _ (by simp) ?_ ?_ ?_
   ·rw[List.countP_eq_length.2]
    ·simp
    ·intro i hi;have hi:i<ops.size:=by simpa using hi
     simp[BQ,Cf,hi]
   ·intro j o' _ hl;rw[hD]at hl;cases hl
   ·rw[nE (λj=>hD j)];obtain⟨W,Y⟩:=Y;exact⟨W,Y.world Z (w':={ w with drawn:=w.drawn+1 }) (Cn _) rfl rfl rfl (λ_ _=>rfl)⟩
 |false =>
  simp only[cond_false]at h;obtain⟨us,ts,H,z,I⟩:=ph _ _ _ _ _ h;refine wp_region ?_;have:=vq Z hT hΓ O u ops.toList 0 st us ts H (by simp) z (hκ H I) a w Y;rw[Cr,<- List.range_eq_range']at this;exact this
end
section
variable {P:Program} {V:Env} {Γ:List Ctr} {T:TypeId->TI} {st st':St} {o:Oper} {R:Type} {all:Array Oper}
theorem kY (live:List Nat):∀ (cs:List Coe) (ls:List Leaf),(c7 st live cs ls).length=ls.length
 |[],[]=>rfl
 |_::_,[]=>rfl
 |[],_::ls=>by simp[c7,kY live [] ls]
 |_::cs,_::ls=>by simp[c7,kY live cs ls]
theorem pi (live:List Nat):∀ (cs:List Coe) (ls:List Leaf) (j:Nat) (l:Leaf),(c7 st live cs ls)[j]?=some l->∃ r,ls[j]?=some r/\(l=.dead\/∃ c,l=bw st live c r)
 |[],[],j,l,h=>by simp[c7]at h
 |_::_,[],j,l,h=>by simp[c7]at h
 |[],r::ls,0,l,h=>by simp[c7]at h;exact⟨r,rfl,.inl h.symm⟩
 |c::cs,r::ls,0,l,h=>by simp[c7]at h;exact⟨r,rfl,.inr ⟨c,h.symm⟩⟩
 |[],r::ls,j+1,l,h=>by
  simp only[c7,Ch]at h;obtain⟨u,z,y⟩:=pi live [] ls j l h;exact⟨u,by simpa using z,y⟩
 |c::cs,r::ls,j+1,l,h=>by
  simp only[c7,Ch]at h;obtain⟨u,z,y⟩:=pi live cs ls j l h;exact⟨u,by simpa using z,y⟩
theorem AK (live:List (Nat×List Coe))(q:Nat):lX live st q=bR.none/\q∉live.map (·.1)\/∃ y,lX live st q=⟨0,(st q).sh,c7 st (live.map (·.1)) y (st q).ls⟩/\q∈live.map (·.1):=by
 have I:∀ (u:List Nat) (l:List (Nat×List Coe)),(av (l.map λr=>(r.1,⟨0,(st r.1).sh,c7 st u r.2 (st r.1).ls⟩)) q=bR.none/\q∉l.map (·.1)) \/
   ∃ y,av (l.map λr=>(r.1,⟨0,(st r.1).sh,c7 st u r.2 (st r.1).ls⟩)) q=⟨0,(st q).sh,c7 st u y (st q).ls⟩/\q∈l.map (·.1):=by
  intro u l;induction l with
  |nil=>exact .inl ⟨rfl,by simp⟩
  |cons x l O =>
   obtain⟨r,y⟩:=x;by_cases h:q=r
   ·subst h;exact .inr ⟨y,by simp[av,ac],by simp⟩
   ·have z:BM q r=false:=by
     cases z:BM q r with
     |false=>rfl
     |true=>exact absurd (BK z) h
    rcases O with ⟨M,J⟩|⟨H,M,J⟩
    ·refine .inl ⟨?_,by simpa[h]using J⟩;rw[<- M];simp[av,ac,z]
    ·refine .inr ⟨H,?_,by simp only[B4,BR];exact .inr J⟩;rw[<- M];simp[av,ac,z]
 exact I (live.map (·.1)) live
theorem ye {keys:List Nat}{c:Coe}{r:Leaf}(h:am (bw st keys c r)):am r\/r=.nil:=by
 cases r with
 |own p u E e y=>exact .inl trivial
 |nil=>exact .inr rfl
 |_ =>
  exfalso;revert h;cases c <;> simp only[bw] <;> first
   |exact id
   |(cases (!_||_:Bool) <;> first | exact id | (split <;> exact id))
   |(cases (_&&_:Bool) <;> exact id)
   |(cases (List.any _ _:Bool) <;> exact id)
   |(cases (List.all _ _:Bool) <;> exact id)
theorem iM.nw {W W':Wit}{w:World}{c:Bool×Bool×(a:Ty)×a.den}{u:Value}(r:∀ k,W.nw k->W'.nw k)(h:iM V W w c u):iM V W' w c u:=by
 have z:∀ (p:Bool) k,gd V W p k->gd V W' p k:=λp k hk=>hk.imp (r k) id
 unfold iM at h ⊢;split at h
 ·rename_i Y;rw[if_pos Y];obtain⟨b,ob,g,I,X,J,Z,y,O,M,H⟩:=h;exact⟨b,ob,g,I,X,J,Z.imp (r b) id,y,O.imp (r g) id,Rd.mono (z _) M,H⟩
 ·rename_i Y;rw[if_neg Y];obtain⟨g,I,X,J,O,M,H⟩:=h;exact⟨g,I,X,J,O.imp (r g) id,Rd.mono (z _) M,H⟩
theorem wI {W W':Wit}{w:World}{keys:List Nat}{bs bs':List Nat}{c:Coe}{M:Leaf}{v:Value}(h:aK P V W st w bs M v)
  (z:∀ k,W.nw k->W'.nw k) (hβ:W'.β=W.β) (a3:∀ q,keys.any (BM q)=true->W'.cs q=W.cs q) (J:∀ b,keys.any (BM b)=true->(st b).sh=.agg->(st' b).sh=.agg)
  (a0:am M->bs'=bs) (a2:M=.nil->bs'=[]) (a1:am M->¬ am (bw st keys c M)->(∃ p E e,c=.ro p E e)->∀ k∈bs,W'.nw k) :
  aK P V W' st' w bs' (bw st keys c M) v:=by
 have H:∀ (p q:Bool),(!q||p)=true->∀ k,gd V W q k->gd V W' p k:=by
  intro p q a4 k I;rcases I with I|⟨h1,I⟩
  ·exact .inl (z k I)
  ·refine .inr ⟨?_,I⟩;subst h1;simpa using a4
 cases c with
 |kill=>simp only[bw];trivial
 |keep =>
  cases M with
  |int k n=>exact h
  |bool b=>exact h
  |str s=>exact h
  |nil=>exact h
  |hdr n=>exact h
  |fn As B φ=>exact h
  |clr f O =>
   obtain⟨us,h1,h2,h3⟩:=h;exact⟨us,h1,h2,λi c u g1 g2=>(h3 i c u g1 g2).nw z⟩
  |al r j n =>
   simp only[bw];cases y:keys.any (BM r)&&BM (st r).ver n with
   |false=>trivial
   |true =>
    simp only[BF]at y;exact⟨C8 _,λ_=>by rw[a3 r y.1];exact h.2 (BK y.2)⟩
  |bp b off =>
   simp only[bw];cases y:keys.any (BM b) with
   |false=>trivial
   |true =>
    obtain⟨h1,h2,h3⟩:=h;exact⟨h1,J b y h2,by rw[hβ];exact h3⟩
  |clo f O =>
   simp only[bw];cases y:O.all (λb=>keys.any (BM b)) with
   |false=>trivial
   |true =>
    obtain⟨h1,h2⟩:=h;rw[B3]at y;exact⟨by rw[hβ];exact h1,λb X=>⟨(h2 b X).1,J b (y b X) (h2 b X).2⟩⟩
  |_=>simp only[bw];trivial
 |own p E e =>
  cases M with
  |nil =>
   have hv:v=.slice none 0 0:=h;subst hv;rw[a2 rfl];exact OwH.nil w _ E e
  |own q hh E' e' xs =>
   cases hh with
   |some x=>simp only[bw];trivial
   |none =>
    simp only[bw];cases y:(!q||p) with
    |false=>trivial
    |true =>
     rw[a0 trivial];exact OwH.carry h (H p q y) (λ_ _=>rfl) (λ_ _=>rfl)
  |_=>simp only[bw];trivial
 |ro p E e =>
  cases M with
  |nil =>
   have hv:v=.slice none 0 0:=h;subst hv;exact Rd.nil w _ false E e
  |ro q E' e' xs =>
   simp only[bw];cases y:(!q||p) with
   |false=>trivial
   |true =>
    simp only[cond_true];split
    ·rename_i ys Y;exact Rd.castSh (m:=false) (m':=false) (E:=E) Y (Rd.mono (H p q y) h)
    ·trivial
  |own q hh E' e' xs =>
   cases hh with
   |some x=>simp only[bw];trivial
   |none =>
    have a5:=a1 trivial (by
     simp only[bw];cases (!q||p) with
     |false=>exact id
     |true=>simp only[cond_true];split <;> exact id) ⟨p,E,e,rfl⟩
    simp only[bw];cases y:(!q||p) with
    |false=>trivial
    |true =>
     simp only[cond_true];split
     ·rename_i ys Y;refine Rd.castSh (m:=false) (m':=false) (E:=E) (E':=E') Y (Rd.mono (λk I=>?_) (OwH.rd (m:=false) (E':=E') h));rcases I with I|I
      ·exact H p q y k I
      ·exact .inl (a5 k I)
     ·trivial
  |_=>simp only[bw];trivial
 |rp p =>
  cases M with
  |rpp q a x =>
   simp only[bw];cases y:(!q||p) with
   |false=>trivial
   |true =>
    obtain⟨b,ob,g,o',c,hv,a6,Z,hg,hr,Y⟩:=h;exact⟨b,ob,g,o',c,hv,a6.imp (z b) id,Z,hg.imp (z g) id,Rd.mono (H p q y) hr,Y⟩
  |rp q a x off =>
   simp only[bw];cases y:(!q||p) with
   |false=>trivial
   |true =>
    obtain⟨g,o',c,hv,hg,hr,Y⟩:=h;exact⟨g,o',c,hv,hg.imp (z g) id,Rd.mono (H p q y) hr,Y⟩
  |_=>simp only[bw];trivial
open Classical in
theorem vt (_hV:ax V){a:Act}{w:World}(h:Rel P V st a w)(live:List (Nat×List Coe))(a4:∀ x∈V.fixb,x.1∈live.map (·.1)):Rel P V (lX live st) a w:=by
 obtain⟨W,h⟩:=h;have J:=AK (st:=st) live;have Y:∀ b,Go.Proofs.YtaegajachoklkaaGreatEv.live (lX live st) b->Go.Proofs.YtaegajachoklkaaGreatEv.live st b:=by
  rintro b ⟨I,z⟩;rcases J b with ⟨e,_⟩|⟨cs,e,_⟩
  ·rw[e]at z;cases z
  ·rw[e]at z;exact⟨I,z⟩
 have a1:∀ (q j:Nat) (l:Leaf),(lX live st q).ls[j]?=some l->q∈live.map (·.1)/\∃ r,(st q).ls[j]?=some r/\(l=.dead\/∃ c,l=bw st (live.map (·.1)) c r):=by
  intro q j l X;rcases J q with ⟨e,_⟩|⟨cs,e,H⟩
  ·rw[e]at X;simp[bR.none]at X
  ·rw[e]at X;exact⟨H,pi _ _ _ _ _ X⟩
 have b5:∀ (q j:Nat) (l:Leaf),(lX live st q).ls[j]?=some l->am l->∃ r,(st q).ls[j]?=some r/\(am r\/r=.nil):=by
  intro q j l X ho;obtain⟨_,r,I,z⟩:=a1 q j l X;rcases z with rfl|⟨c,rfl⟩
  ·exact ho.elim
  ·exact⟨r,I,ye ho⟩
 have a0:∀ b,(live.map (·.1)).any (BM b)=true->b∈live.map (·.1):=λb O=>by
  rw[CS]at O;obtain⟨x,hx,he⟩:=O;rw[BK he];exact hx
 let y:Nat->Nat->List Nat:=λq j=>if (∃ r,(st q).ls[j]?=some r/\am r) then W.bs q j else []
 let a2:Nat->Prop:=λk=>W.nw k\/∃ q j r l,(st q).ls[j]?=some r/\am r/\(lX live st q).ls[j]?=some l/\¬ am l/\k∈W.bs q j
 have Z:∀ (q j k:Nat),k∈y q j->(∃ r,(st q).ls[j]?=some r/\am r)/\k∈W.bs q j:=by
  intro q j k M;by_cases hc:∃ r,(st q).ls[j]?=some r/\am r
  ·simp only[y,if_pos hc]at M;exact⟨hc,M⟩
  ·simp only[y,if_neg hc]at M;simp at M
 refine⟨{ β:=W.β,cs:=λq=>if q∈live.map (·.1) then W.cs q else [],bs:=y,nw:=a2 },?_⟩
 exact {
  nt:=h.nt,df:=h.df
  slots:=λt ht=>by
   rcases J t with ⟨e,H⟩|⟨cs,e,H⟩
   ·rw[e];simp[H,bR.none,ek]
   ·rw[e];simp only[H,if_true];exact h.slots t ht
  boxes:=λb O=>by
   rcases J b with ⟨e,H⟩|⟨cs,e,H⟩
   ·rw[e];exact .inl ⟨rfl,rfl⟩
   ·rw[e];rcases h.boxes b O with ⟨I,z⟩|⟨I,E,z⟩
    ·exact .inl ⟨I,by rw[z];exact List.eq_nil_of_length_eq_zero (by rw[kY];rfl)⟩
    ·exact .inr ⟨I,E,by simp only[H,if_true];exact z⟩
  len:=λq=>by
   rcases J q with ⟨e,H⟩|⟨cs,e,H⟩
   ·rw[e];simp[H,bR.none]
   ·rw[e];simp only[H,if_true,kY];exact h.len q
  one:=λq u hu=>by
   by_cases H:q∈live.map (·.1)
   ·simp only[H,if_true]at hu;exact h.one q u hu
   ·simp only[H,if_false]at hu;simp at hu
  leaf:=λq j l v X hv=>by
   obtain⟨H,r,I,z⟩:=a1 q j l X;simp only[H,if_true]at hv;have a5:=h.leaf q j r v I hv;rcases z with rfl|⟨c,rfl⟩
   ·trivial
   ·refine wI (st:=st) (W:=W) (W':={ β:=W.β,cs:=λq=>if q∈live.map (·.1) then W.cs q else [],bs:=y,nw:=a2 }) (keys:=live.map (·.1)) a5 (λk M=>Or.inl M) rfl (λq hq=>if_pos (a0 q hq)) ?_ ?_ ?_ ?_
    ·intro b O b2;have b4:=a0 b O;rcases J b with ⟨_,a6⟩|⟨cs,e,_⟩
     ·exact absurd b4 a6
     ·rw[e];exact b2
    ·intro ho;show y q j=_;simp only[y,if_pos (⟨r,I,ho⟩:∃ r,(st q).ls[j]?=some r/\am r)]
    ·intro e;show y q j=_;have hc:¬ ∃ r,(st q).ls[j]?=some r/\am r:=by
      rintro⟨l1,h3,h4⟩;rw[I,e]at h3;cases h3;exact h4.elim
     simp only[y,if_neg hc]
    ·intro ho hn _ k M;exact .inr ⟨q,j,r,_,I,ho,X,hn,M⟩
  ownb:=λq j l X ho k M=>by
   obtain⟨⟨r,I,z⟩,h3⟩:=Z q j k M;obtain⟨q1,q2,q3⟩:=h.ownb q j r I z k h3;refine⟨?_,q2,λb O=>q3 b (Y b O)⟩;rintro (hn|⟨q',j',l1,l2,h4,h5,h6,h7,h8⟩)
   ·exact q1 hn
   ·obtain⟨rfl,rfl⟩:=h.sep q j r q' j' l1 I z h4 h5 k h3 h8;rw[X]at h6;cases h6;exact h7 ho
  sep:=λq j l q' j' l' _ _ _ _ k M a9=>by
   obtain⟨⟨r,I,z⟩,h3⟩:=Z q j k M;obtain⟨⟨b3,b0,ad⟩,b1⟩:=Z q' j' k a9;exact h.sep q j r q' j' b3 I z b0 ad k h3 b1
  box:=λb O=>by
   obtain⟨q1,q2⟩:=h.box b (Y b O);refine⟨?_,q2⟩;rintro (hn|⟨q',j',l1,l2,h4,h5,h6,h7,h8⟩)
   ·exact q1 hn
   ·exact (h.ownb q' j' l1 h4 h5 _ h8).2.2 b (Y b O) rfl
  inj:=λb b' O a3=>h.inj b b' (Y b O) (Y b' a3)
  nwlt:=λk M=>by
   rcases M with hn|⟨q',j',l1,l2,h4,h5,h6,h7,h8⟩
   ·exact h.nwlt k hn
   ·exact⟨h.own_lt h4 h5 k h8,(h.ownb q' j' l1 h4 h5 k h8).2.1⟩
  os:=h.os,tape:=h.tape,output:=h.output,size:=h.size,keep:=h.keep
  fixb:=λx hx=>by
   obtain⟨⟨I,z⟩,h3⟩:=h.fixb x hx;refine⟨⟨I,?_⟩,h3⟩;rcases J x.1 with ⟨_,H⟩|⟨cs,e,_⟩
   ·exact absurd (a4 x hx) H
   ·rw[e];exact z
  fixt:=h.fixt }
def exOf:Ex->Exit
 |.normal=>.normal
 |.exit id=>.exit id
 |.ret=>.ret
theorem mA {nt:Nat}{fix:List Nat}(u:V.nt=nt)(r:∀ x∈V.fixt,x.1∈fix)(h:lC nt fix all o=true):bN V o:=by
 intro d z;simp only[lC,z,BF,CH,Cc]at h;obtain⟨⟨I,H⟩,_⟩:=h;refine⟨by rw[u];simpa[CP]using I,λx y e=>?_⟩;exact H _ (r x y) (by simp[e])
end
section
variable {P:Program} {V:Env} {Γ:List Ctr} {T:TypeId->TI} {R:Type}
open Classical in
theorem tU {Q:Exit->Act->World->Prop}{a:Act}{w:World}{c:Code}(J:Nat->Act->World->Prop)(h0:∃ n,J n a w)(hz:∀ a w,¬ J 0 a w)
  (y:∀ n a w,J (n+1) a w->c.wp P (Exit.then (J n) Q) a w):(Code.loop c).wp P Q a w:=by
 have u:∀ (a:Act) (w:World) (n:Nat),J n a w->∃ m,J m a w/\m<=n/\∀ k,J k a w->m<=k:=by
  intro a w n;induction n using DB with
  |ind n ih =>
   intro H;by_cases h:∃ k,k<n/\J k a w
   ·obtain⟨k,O,hJ⟩:=h;obtain⟨m,r,M,I⟩:=ih k O hJ;exact⟨m,r,by omega,I⟩
   ·refine⟨n,H,Cn _,λk O=>?_⟩;apply B8;intro a0;exact h ⟨k,by omega,O⟩
 let z:Act->World->Nat:=λa w=>if h:∃ m,J m a w/\∀ k,J k a w->m<=k then h.choose else 0
 have hμ:∀ a w n,J n a w->J (z a w) a w/\z a w<=n:=by
  intro a w n H;obtain⟨m,r,_,I⟩:=u a w n H;have h:∃ m,J m a w/\∀ k,J k a w->m<=k:=⟨m,r,I⟩;have e:z a w=h.choose:=by simp only[z];rw[dif_pos h]
  rw[e];exact⟨h.choose_spec.1,h.choose_spec.2 n H⟩
 refine wp_loop (λa w=>∃ n,J n a w) z h0 λa w ⟨n,H⟩=>?_
 obtain⟨r,_⟩:=hμ a w n H;cases hm:z a w with
 |zero=>rw[hm]at r;exact absurd r (hz a w)
 |succ m =>
  rw[hm]at r;refine wp_mono (y m a w r) λe Z Y X=>?_
  cases e with
  |normal =>
   have M:J m Z Y:=X;exact⟨⟨m,M⟩,Nat.lt_succ_of_le (hμ Z Y m M).2⟩
  |_=>exact X
theorem zw {st:St}{a:Act}{w:World}(u:Rel P V st a w){t:Nat}(y:t<GH){b:Bool}(I:(st t).sh=.one)(H:(st t).ls=[.bool b]):a.eval (.tmp t)=.bool b:=by
 obtain⟨W,u⟩:=u;have r:=u.slots t y;rw[I]at r;have r:W.cs t=[a.tmps.getD t undef]:=r;have z:=u.leaf t 0 (.bool b) (a.tmps.getD t undef) (by rw[H];rfl) (by rw[r];rfl);exact z
theorem sq (hV:ax V)(hT:TOk P T)(hΓ:∀ c∈Γ,bP P c)(a2:P.follows .mixedOrders=true){fx:List Nat}(a5:∀ x∈V.fixb,x.1∈fx){nt:Nat}{fix:List Nat}(a1:V.nt=nt)(a4:∀ x∈V.fixt,x.1∈fix)
  {L:List (Nat×List (Nat×List Coe))} {O:Nat}:∀ (c:Code),dS nt fix c=true->dq L fx c=true->∀ (st:St) (I:Ex->St->Option R) (r:R) (Q:Exit->Act->World->Prop),evK Γ T L O c st I=some r ->
   (∀ ex J,I ex J=some r->∀ a w,Rel P V J a w->Q (exOf ex) a w)->∀ a w,Rel P V st a w->c.wp P Q a w:=by
 intro c;induction c with
 |skip=>exact λ_ _ st I r Q h z a w u=>wp_skip (z .normal st h a w u)
 |region id a3 a9 =>
  intro hc hlp st I r Q h z a w u;simp only[dS,B3]at hc;have a0:∀ (i:Nat) (o:Oper),a3[i]?=some o->lC nt fix a3 o=true:=λi o hi=>hc o (by simpa using Cl hi)
  refine Bv hV hT hΓ a2 (λi o hi=>mA a1 a4 (a0 i o hi)) (λi o hi j a6 hg s hs=>?_) h (λJ H a w u=>z .normal J H a w u) u;have:=a0 i o hi;simp only[lC,hg,hs,BF]at this;rw[a1];simpa[CP]using this.2
 |seq x y Z Y =>
  intro hc hlp st I r Q h z a w u;simp only[dS,BF]at hc;simp only[dq,BF]at hlp;simp only[evK]at h;refine wp_seq (Z hc.1 hlp.1 st _ r _ h (λex J H a w u=>?_) a w u);cases ex with
  |normal=>exact Y hc.2 hlp.2 J I r Q H z a w u
  |exit id=>exact z (.exit id) J H a w u
  |ret=>exact z .ret J H a w u
 |cond t x y Z Y =>
  intro hc hlp st I r Q h z a w u;simp only[dS,BF]at hc;simp only[dq,BF]at hlp;simp only[evK]at h;unfold zE at h;split at h
  ·rename_i t;split at h
   ·rename_i b H h2;have hv:=zw u (Cx (by have:=hc.1.1;simp only[wN,CP]at this;rw[a1];exact this) hV.nt) H h2;cases b with
    |true =>
     simp only[cond_true]at h;rw[pg H h2]at h;exact wp_cond_true hv (Z hc.1.2 hlp.1 st I r Q h z a w u)
    |false =>
     simp only[cond_false]at h;rw[pg H h2]at h;exact wp_cond_false hv (Y hc.2 hlp.2 st I r Q h z a w u)
   ·cases h
  ·rename_i b;cases b with
   |true=>exact wp_cond_true rfl (Z hc.1.2 hlp.1 st I r Q h z a w u)
   |false=>exact wp_cond_false rfl (Y hc.2 hlp.2 st I r Q h z a w u)
  ·cases h
 |block id c ih =>
  intro hc hlp st I r Q h z a w u;simp only[dS]at hc;simp only[dq]at hlp;simp only[evK]at h;refine wp_block (ih hc hlp st _ r _ h (λex J H a w u=>?_) a w u);cases ex with
  |normal=>exact z .normal J H a w u
  |exit M =>
   simp only[sw]at H;show if M=id then Q .normal a w else Q (.exit M) a w
   by_cases e:M=id
   ·rw[if_pos e];subst e;simp only[Nat.beq_refl,cond_true]at H;exact z .normal J H a w u
   ·rw[if_neg e];have hb:BM M id=false:=by
     cases hb:BM M id with
     |false=>rfl
     |true=>exact absurd (BK hb) e
    rw[hb]at H;exact z (.exit M) J H a w u
  |ret=>exact z .ret J H a w u
 |loop c ih =>
  intro hc hlp st I r Q h z a w u;simp only[dS]at hc;simp only[dq,BF,B3]at hlp;simp only[evK]at h;have X:∀ x∈V.fixb,x.1∈(lB L (eX c)).map (·.1):=λx hx=>by
   obtain⟨r,u,he⟩:=CS.1 (hlp.1 x.1 (a5 x hx));exact BO.2 ⟨r,u,BK he⟩
  refine tU (λn a w=>∃ st,aZ (lB L (eX c)) (evK Γ T L O c) n st I=some r/\Rel P V st a w) ⟨O,_,h,vt hV u _ X⟩ ?_ ?_
  ·rintro a w ⟨st,H,_⟩;cases H
  ·rintro n a w ⟨st,H,u⟩;simp only[aZ]at H;refine ih hc hlp.2 st _ r _ H (λex J h2 a w u=>?_) a w u;cases ex with
   |normal=>exact⟨_,h2,vt hV u _ X⟩
   |exit id=>exact z (.exit id) J h2 a w u
   |ret=>exact z .ret J h2 a w u
 |exit id=>exact λ_ _ st I r Q h z a w u=>wp_exit (z (.exit id) st h a w u)
 |ret=>exact λ_ _ st I r Q h z a w u=>wp_ret (z .ret st h a w u)
 |_=>intro _ _ st I r Q h;simp[evK]at h
end
section
variable {P:Program} {Γ:List Ctr} {T:TypeId->TI} {R:Type} {w:World} {ro pr:Nat->Prop}
theorem jb {G:Nat->Prop}{p:Bool}:∀ {b:Ty} {h:Option Nat} {pos:Nat} {x:b.den} {cs:List Value} {bs:List Nat},Mx w G b h pos x cs bs->bs.Nodup ->
  ∃ a2:Nat->List Nat,
   (∀ (V:Env) (W:Wit) (st:St),(∀ k,G k->gd V W p k)->∀ (j:Nat) (l:Leaf) (u:Value),h≠some (pos+j)->(ap p b x)[j]?=some l->cs[j]?=some u->aK P V W st w (a2 j) l u) /\
   (∀ (j:Nat) (l:Leaf),h≠some (pos+j)->(ap p b x)[j]?=some l->am l->∀ k∈a2 j,k∈bs) /\
   (∀ (j J:Nat) (l l':Leaf),h≠some (pos+j)->h≠some (pos+J)->(ap p b x)[j]?=some l->am l->(ap p b x)[J]?=some l'->am l'->∀ k,k∈a2 j->k∈a2 J->j=J)
 |.int k,_,_,x,cs,bs,H,_=>by
  obtain⟨rfl,rfl⟩:=H;exact⟨λ_=>[],λV W st _ j l u _ y X=>by cases j with|zero=>simp[ap]at y X;subst y;subst X;rfl|succ j=>simp[ap]at y,λj l _ y _ k r=>by simp at r,λj J l l' _ _ _ _ _ _ k r=>by simp at r⟩
 |.bool,_,_,x,cs,bs,H,_=>by
  obtain⟨rfl,rfl⟩:=H;exact⟨λ_=>[],λV W st _ j l u _ y X=>by cases j with|zero=>simp[ap]at y X;subst y;subst X;rfl|succ j=>simp[ap]at y,λj l _ y _ k r=>by simp at r,λj J l l' _ _ _ _ _ _ k r=>by simp at r⟩
 |.str,_,_,x,cs,bs,H,_=>by
  obtain⟨rfl,rfl⟩:=H;exact⟨λ_=>[],λV W st _ j l u _ y X=>by cases j with|zero=>simp[ap]at y X;subst y;subst X;rfl|succ j=>simp[ap]at y,λj l _ y _ k r=>by simp at r,λj J l l' _ _ _ _ _ _ k r=>by simp at r⟩
 |.unit,_,_,x,cs,bs,H,_=>by
  obtain⟨rfl,rfl⟩:=H;exact⟨λ_=>[],λV W st _ j l u _ y X=>by simp[ap]at y,λj l _ y _ k r=>by simp at r,λj J l l' _ _ _ _ _ _ k r=>by simp at r⟩
 |.hdr,_,_,x,cs,bs,H,_=>by
  obtain⟨⟨A,a9,rfl⟩,rfl⟩:=H;exact⟨λ_=>[],λV W st _ j l u _ y X=>by cases j with|zero=>simp[ap]at y X;subst y;subst X;exact⟨A,a9,rfl⟩|succ j=>simp[ap]at y,λj l _ y _ k r=>by simp at r,λj J l l' _ _ _ _ _ _ k r=>by simp at r⟩
 |.pair b c,h,pos,x,cs,bs,⟨c1,c2,b1,b2,e1,e2,y,X⟩,Z=>by
  subst e1;subst e2;rw[CK]at Z;obtain⟨d1,f2,f3,f4⟩:=jb y Z.1;obtain⟨d2,g2,g3,g4⟩:=jb X Z.2.1;have ad:=cG p b x.1;have b0:=y.len;have I:∀ (j:Nat) (l:Leaf),(ap p b x.1++ap p c x.2)[j]?=some l->(j<b.cells/\(ap p b x.1)[j]?=some l)\/(b.cells<=j/\(ap p c x.2)[j-b.cells]?=some l):=by
   intro j l z;by_cases M:j<b.cells
   ·rw[B7 (by omega)]at z;exact .inl ⟨M,z⟩
   ·rw[B5 (by omega),ad]at z;exact .inr ⟨by omega,z⟩
  have a0:∀ j,b.cells<=j->h≠some (pos+j)->h≠some (pos+b.cells+(j-b.cells)):=λj z hh=>by rwa [show pos+b.cells+(j-b.cells)=pos+j by omega]
  refine⟨λj=>if j<b.cells then d1 j else d2 (j-b.cells),λV W st hG j l u hh z hu=>?_,λj l hh z ho k r=>?_,λj J l l' hh a3 z ho Y a4 k r O=>?_⟩
  ·rcases I j l z with ⟨M,z⟩|⟨a1,z⟩
   ·rw[B7 (by omega)]at hu;simp only[if_pos M];exact f2 V W st hG j l u hh z hu
   ·rw[B5 (by omega),b0]at hu;simp only[if_neg (show ¬ j<b.cells by omega)];exact g2 V W st hG _ l u (a0 j a1 hh) z hu
  ·rcases I j l z with ⟨M,z⟩|⟨a1,z⟩
   ·simp only[if_pos M]at r;exact BG _ (f3 j l hh z ho k r)
   ·simp only[if_neg (show ¬ j<b.cells by omega)]at r;exact BH _ (g3 _ l (a0 j a1 hh) z ho k r)
  ·rcases I j l z with ⟨M,z⟩|⟨a1,z⟩ <;> rcases I J l' Y with ⟨a5,Y⟩|⟨a6,Y⟩
   ·simp only[if_pos M]at r;simp only[if_pos a5]at O;exact f4 j J l l' hh a3 z ho Y a4 k r O
   ·simp only[if_pos M]at r;simp only[if_neg (show ¬ J<b.cells by omega)]at O;exact absurd rfl (Z.2.2 k (f3 j l hh z ho k r) k (g3 _ l' (a0 J a6 a3) Y a4 k O))
   ·simp only[if_neg (show ¬ j<b.cells by omega)]at r;simp only[if_pos a5]at O;exact absurd rfl (Z.2.2 k (f3 J l' a3 Y a4 k O) k (g3 _ l (a0 j a1 hh) z ho k r))
   ·simp only[if_neg (show ¬ j<b.cells by omega)]at r;simp only[if_neg (show ¬ J<b.cells by omega)]at O;have:=g4 _ _ l l' (a0 j a1 hh) (a0 J a6 a3) z ho Y a4 k r O;omega
 |.list m E e,h,pos,xs,cs,bs,H,Z=>by
  cases m with
  |false =>
   rw[cn]at H;obtain⟨rfl,A,a9,rfl,X,h3⟩:=H;refine⟨λ_=>[],λV W st hG j l u _ y h4=>?_,λj l _ y _ k r=>by simp at r,λj J l l' _ _ _ _ _ _ k r=>by simp at r⟩;cases j with
   |zero =>
    simp[ap]at y h4;subst y;subst h4;exact Rd.mono hG (⟨A,a9,rfl,X,h3⟩:Rd w G (.list false E e) xs _)
   |succ j=>simp[ap]at y
  |true =>
   refine⟨λ_=>bs,λV W st hG j l u hh y h4=>?_,λj l _ y _ k r=>r,λj J l l' _ _ y _ h3 _ k _ _=>?_⟩
   ·cases j with
    |zero =>
     rw[Nat.add_zero]at hh;rw[bJ hh]at H;obtain⟨v,rfl,hO⟩:=H;simp[ap]at y h4;subst y;subst h4;exact⟨Z,OwB.shy (hO.carry hG (λ_ _=>rfl) (λ_ _=>rfl))⟩
    |succ j=>simp[ap]at y
   ·have h7:j<1:=by simpa[ap]using (BN.1 y).1
    have h8:J<1:=by simpa[ap]using (BN.1 h3).1
    omega
theorem mB {p:Bool}{off:Nat}:∀ {a:Ty} {pos:Nat} {x:a.den} {E:TypeId} {e:Ty} {xs:List e.den},be off a pos x=some ⟨E,e,xs⟩->(ap p a x)[off-pos]?=some (.own (p&&e.shy) none E e xs)
 |.pair a b,pos,x,E,e,xs,h=>by
  have H:=cG p a x.1;simp only[be]at h;simp only[ap];split at h
  ·rename_i u z;simp only[BD]at h;subst h;have y:=gv z;rw[B7 (by omega)];exact mB z
  ·have y:=gv h;rw[B5 (by omega),H,show off-pos-a.cells=off-(pos+a.cells) by omega];exact mB h
 |.list m M J,pos,I,E,e,xs,h=>by
  simp only[be]at h;cases r:m&&BM pos off with
  |false=>simp[r]at h
  |true =>
   rw[r]at h;simp only[cond_true,BD,Sigma.mk.injEq]at h;obtain⟨rfl,h⟩:=h;simp only[BF]at r;obtain⟨rfl,r⟩:=r;have r:=BK r;subst r;rw[heq_eq_eq,Sigma.mk.injEq]at h;obtain⟨rfl,h⟩:=h;rw[heq_eq_eq]at h;subst h;simp[ap]
 |.int _,_,_,_,_,_,h=>by simp[be]at h
 |.bool,_,_,_,_,_,h=>by simp[be]at h
 |.str,_,_,_,_,_,h=>by simp[be]at h
 |.unit,_,_,_,_,_,h=>by simp[be]at h
 |.hdr,_,_,_,_,_,h=>by simp[be]at h
theorem tV (V:Env)(W:Wit)(H:V.ro0=ro)(r:V.prot=pr):∀ {cs:List (Bool×Ty)} {x:lS cs} {us:List Value},jM w ro pr cs x us->us.length=(j8 true cs x).length /\
  ∀ (i:Nat) (c:Bool×Bool×(a:Ty)×a.den) (u:Value),(j8 true cs x)[i]?=some c->us[i]?=some u->iM V W w c u
 |[],_,us,h=>by
  have h:us=[]:=h;subst h;exact⟨rfl,λi c u z _=>by simp[j8]at z⟩
 |c::cs,x,us,⟨u,a1,e,z,h2⟩=>by
  subst e;obtain⟨i1,i2⟩:=tV V W H r h2;refine⟨by simp[j8,i1],λi c' u' J M=>?_⟩;cases i with
  |succ i=>exact i2 i c' u' (by simpa[j8]using J) (by simpa using M)
  |zero =>
   simp[j8]at J M;subst J;subst M;have hG:∀ k,ro k->gd V W true k:=λk hk=>.inr ⟨rfl,by rw[H];exact hk⟩
   unfold iM;unfold gO at z;split at z
   ·rename_i I;simp only[I,if_true];obtain⟨b,ob,g,o,Y,X,a0,y,hg,Z,O⟩:=z;exact⟨b,ob,g,o,Y,X,.inr (by rw[r];exact a0),y,.inr (by rw[r];exact hg),Z.mono hG,O⟩
   ·rename_i I;have I:c.1=false:=by simpa using I
    simp only[I,CW,if_false];obtain⟨g,o,Y,X,hg,Z,O⟩:=z;exact⟨g,o,Y,by rw[X];rfl,.inr (by rw[r];exact hg),Z.mono hG,O⟩
structure Ent where
 r:Nat
 c:bR
 cs:List Value
 bs:Nat->List Nat
 bl:List Nat
 g:Nat
structure qj (P:Program) (w:World) (ro pr:Nat->Prop) (bx:List (Nat×Nat)) (e:Ent):Prop where
 len:e.c.ls.length=e.cs.length
 one:∀ u∈e.cs,u.oneCell'=true
 leaf:∀ (V:Env) (W:Wit) (st:St),V.w0=w->V.ro0=ro->V.prot=pr->(∀ z∈bx,B0<=z.1/\(st z.1).sh=.agg/\W.β z.1=z.2)->∀ (j:Nat) (l:Leaf) (u:Value),e.c.ls[j]?=some l->e.cs[j]?=some u->aK P V W st w (e.bs j) l u
 own:∀ (j:Nat) (l:Leaf),e.c.ls[j]?=some l->am l->∀ k∈e.bs j,k∈e.bl
 sep:∀ (j j':Nat) (l l':Leaf),e.c.ls[j]?=some l->am l->e.c.ls[j']?=some l'->am l'->∀ k,k∈e.bs j->k∈e.bs j'->j=j'
 box:B0<=e.r->e.c.sh=.agg/\e.g∈e.bl/\(∀ (j:Nat) (l:Leaf),e.c.ls[j]?=some l->am l->e.g∉e.bs j)/\(∃ E,w.heap[e.g]?=some (.cells e.cs.toArray E (0,0)))/\(e.r,e.g)∈bx
theorem qj.mono {u r:List (Nat×Nat)}{e:Ent}(h:qj P w ro pr u e)(y:∀ z∈u,z∈r):qj P w ro pr r e :=
  { len:=h.len,one:=h.one,own:=h.own,sep:=h.sep
    leaf:=λV W M h1 I H O=>h.leaf V W M h1 I H (λz Z=>O z (y z Z))
    box:=λY=>by obtain⟨q1,X,J,q4,q5⟩:=h.box Y;exact⟨q1,X,J,q4,y _ q5⟩ }
structure wJ (P:Program) (w:World) (ro pr:Nat->Prop) (t:Nat) (pk:PK) (v:Value) (b:List Nat) (bx:List (Nat×Nat)) (es:List Ent):Prop where
 bl:es.flatMap (·.bl)=b
 ok:∀ e∈es,qj P w ro pr bx e
 at_:∀ e∈es,e.r=t\/e.r=B0+t
 nod:(es.map (·.r)).Nodup
 slot:∃ e∈es,e.r=t/\ek e.c.sh v e.cs
 bxs:∀ z∈bx,z.1=B0+t/\(∃ e∈es,e.r=B0+t/\e.g=z.2)
theorem tW (t n:Nat){a:Ty}{x:a.den}{v:Value}{cs:List Value}{b:List Nat}(O:b.Nodup)(h1:dg a.isAgg v cs)(J:Mx w ro a none 0 x cs b)(a0:t<B0) :
    ∃ Z,wJ P w ro pr t (.own a) v b [] Z/\[((t,⟨n,bi a.isAgg,ap true a x⟩):Nat×bR)]=Z.map (λe=>(e.r,e.c)):=by
  obtain⟨I,m1,m2,m3⟩:=jb (P:=P) (p:=true) J O;have H:∀ j,(none:Option Nat)≠some (0+j):=λj=>by simp
  refine⟨[⟨t,⟨n,bi a.isAgg,ap true a x⟩,cs,I,b,0⟩],⟨by simp,?_,by simp,by simp,⟨_,BY _,rfl,kk h1⟩,by simp⟩,rfl⟩;intro e X;simp only[CD]at X;subst X
  exact { len := by show (ap true a x).length = _; rw [cG, J.len]
          one:=J.one
          leaf:=λV W st _ M _ _ j l u y z=>m1 V W st (λk hk=>.inr ⟨rfl,by rw[M];exact hk⟩) j l u (H j) y z
          own:=λj l y z=>m2 j l (H j) y z
          sep:=λj Y l l' y z h5 h6=>m3 j Y l l' (H j) (H Y) y z h5 h6
          box:=λhr=>absurd hr (by show ¬ B0<=t;omega) }
theorem nV (t:Nat){l:Leaf}{v:Value}{pk:PK}(a0:t<B0)(J:¬ am l)(h1:v.oneCell'=true)(y:∀ (V:Env) (W:Wit) (st:St),V.w0=w->V.ro0=ro->V.prot=pr->aK P V W st w [] l v) :
    ∃ es,wJ P w ro pr t pk v [] [] es/\[((t,⟨0,.one,[l]⟩):Nat×bR)]=es.map (λe=>(e.r,e.c)):=by
  refine⟨[⟨t,⟨0,.one,[l]⟩,[v],λ_=>[],[],0⟩],⟨by simp,?_,by simp,by simp,⟨_,BY _,rfl,rfl⟩,by simp⟩,rfl⟩;intro e Z;simp only[CD]at Z;subst Z;have O:∀ (j:Nat) (z:Leaf),[l][j]?=some z->j=0/\z=l:=λj z X=>by
    cases j with
    |zero=>simp at X;exact⟨rfl,X.symm⟩
    |succ j=>simp at X
  exact { len := rfl
          one:=λu hu=>by simp at hu;subst hu;exact h1
          leaf:=λV W st hw M Y _ j z u I H=>by
            obtain⟨rfl,rfl⟩:=O j z I;simp at H;subst H;exact y V W st hw M Y
          own:=λj z I H=>by obtain⟨_,rfl⟩:=O j z I;exact absurd H J
          sep:=λj j' l1 l2 I H=>by obtain⟨_,rfl⟩:=O j l1 I;exact absurd H J
          box:=λhr=>absurd hr (by show ¬ B0<=t;omega) }
def tX:Value->Nat
 |.pointer (some a)=>a.block
 |_=>0
def ee (t:Nat):List PK->List Value->List (Nat×Nat)
 |.iop _::u,v::r=>(B0+t,tX v)::ee (t+1) u r
 |_::u,_::r=>ee (t+1) u r
 |_,_=>[]
def eh (t:Nat):List PK->List Value->List (Nat×Value)
 |.io _::u,v::r=>(t,v)::eh (t+1) u r
 |.iop _::u,v::r=>(t,v)::eh (t+1) u r
 |_::u,_::r=>eh (t+1) u r
 |_,_=>[]
def PK.bx (t:Nat)(v:Value):PK->List (Nat×Nat)
 |.iop _=>[(B0+t,tX v)]
 |_=>[]
theorem Bw (t:Nat)(a1:t<B0){pk:PK}{ps:List PK}{x:ab (pk::ps)}{v:Value}{b:List Nat}(a0:b.Nodup)(h:nS P w ro pr pk x.1 v b) :
    ∃ es,wJ P w ro pr t pk v b (pk.bx t v) es/\c8 t (pk::ps) x=es.map (λe=>(e.r,e.c))++c8 (t+1) ps x.2:=by
  cases pk with
  |rd a =>
    obtain⟨rfl,cs,h1,h2⟩:=h;refine⟨[⟨t,⟨0,bi a.isAgg,cH true a x.1⟩,cs,λ_=>[],[],0⟩],⟨by simp,?_,by simp,by simp,⟨_,BY _,rfl,kk h1⟩,by simp[PK.bx]⟩,rfl⟩;intro e he;simp only[CD]at he;subst he;have b4:∀ (V:Env) (W:Wit) (st:St),V.ro0=ro->aB P V W st w (cH true a x.1) cs:=λV W st J=>fe (G:=ro) (λk I=>.inr ⟨rfl,by rw[J];exact I⟩) h2
    have ba:∀ (j:Nat) (l:Leaf),(cH true a x.1)[j]?=some l->¬ am l:=λj l M=>by
      have hl:=gH true a x.1;have hc:=h2.len;have c1:=(BN.1 M).1;exact ((b4 ⟨w,ro,[],0,[],[]⟩ ⟨λ_=>0,λ_=>[],λ_ _=>[],λ_=>False⟩ (λ_=>bR.none) rfl).at_ j l _ M (BU (by omega))).2.1
    exact { len := by show (cH true a x.1).length = _; rw [gH, h2.len]
            one:=h2.one
            leaf:=λV W st _ J _ _ j l u y H=>((b4 V W st J).at_ j l u y H).1
            own:=λj l y H=>absurd H (ba j l y)
            sep:=λj j' l l' y H=>absurd H (ba j l y)
            box:=λhr=>absurd hr (by show ¬ B0<=t;omega) }
  |own a =>
    obtain⟨cs,h1,h2⟩:=h;obtain⟨es,y,H⟩:=tW (P:=P) (pr:=pr) t 0 a0 h1 h2 a1;exact⟨es,⟨y.bl,y.ok,y.at_,y.nod,y.slot,y.bxs⟩,by rw[<- H];rfl⟩
  |io a =>
    obtain⟨cs,h1,h2⟩:=h;obtain⟨es,y,H⟩:=tW (P:=P) (pr:=pr) t 7 a0 h1 h2 a1;exact⟨es,⟨y.bl,y.ok,y.at_,y.nod,y.slot,y.bxs⟩,by rw[<- H];rfl⟩
  |rref a =>
    obtain⟨rfl,h⟩:=h;unfold gO at h;rw[if_neg (by simp)]at h;obtain⟨g,o,c,hv,hg,hr,hc⟩:=h;subst hv;obtain⟨es,y,H⟩:=nV (P:=P) (w:=w) (ro:=ro) (pr:=pr) t (pk:=.rref a) (l:=.rp true a x.1 0) (v:=.pointer (some ⟨g,o,none⟩)) a1 id rfl (λV W st hw J X=>⟨g,o,c,rfl,.inr (by rw[X];exact hg),hr.mono (λk I=>.inr ⟨rfl,by rw[J];exact I⟩),hc⟩);exact⟨es,y,by rw[<- H];rfl⟩
  |rref2 a =>
    obtain⟨rfl,h⟩:=h;unfold gO at h;rw[if_pos rfl]at h;obtain⟨b,ob,g,o,c,hv,hb,a6,hg,hr,hc⟩:=h;subst hv;obtain⟨es,y,H⟩:=nV (P:=P) (w:=w) (ro:=ro) (pr:=pr) t (pk:=.rref2 a) (l:=.rpp true a x.1) (v:=.pointer (some ⟨b,ob,none⟩)) a1 id rfl (λV W st hw J X=>⟨b,ob,g,o,c,rfl,.inr (by rw[X];exact hb),a6,.inr (by rw[X];exact hg),hr.mono (λk I=>.inr ⟨rfl,by rw[J];exact I⟩),hc⟩);exact⟨es,y,by rw[<- H];rfl⟩
  |fn As B =>
    obtain⟨rfl,h⟩:=h;have bn:v.oneCell'=true:=by
      obtain⟨f,c0,e,_⟩:=h;rw[e];rfl
    obtain⟨es,y,H⟩:=nV (P:=P) (w:=w) (ro:=ro) (pr:=pr) t (pk:=.fn As B) (l:=.fn As B x.1) (v:=v) a1 id bn (λV W st hw J X=>by
      show ib P V.w0 V.prot As B x.1 v;rw[hw,X];exact h)
    exact⟨es,y,by rw[<- H];rfl⟩
  |clo f cs =>
    obtain⟨rfl,us,e,h⟩:=h;subst e;obtain⟨es,y,H⟩:=nV (P:=P) (w:=w) (ro:=ro) (pr:=pr) t (pk:=.clo f cs) (l:=.clr f (j8 true cs x.1)) (v:=.func (.func f) #[] us.toArray) a1 id rfl (λV W st hw J X=>by
      obtain⟨i1,i2⟩:=tV V W J X h;exact⟨us,rfl,i1,i2⟩)
    exact⟨es,y,by rw[<- H];rfl⟩
  |iop a =>
    obtain⟨g,c,E,b0,hv,hg,hm,rfl⟩:=h;subst hv;rw[CE]at a0;obtain⟨a5,m1,m2,m3⟩:=jb (P:=P) (p:=true) hm a0.2;have hn:∀ j,(none:Option Nat)≠some (0+j):=λj=>by simp
    have Y:t≠B0+t:=by simp[B0]
    refine⟨[⟨t,⟨0,.one,[.bp (B0+t) 0]⟩,[.pointer (some ⟨g,0,none⟩)],λ_=>[],[],0⟩,⟨B0+t,⟨0,.agg,ap true a x.1⟩,c,a5,g::b0,g⟩],
      ⟨by simp,?_,λe he=>by simp at he;rcases he with rfl|rfl <;> simp,by rw[B4,B4,DE,CE];exact⟨by simpa using Y,by simp⟩,⟨_,BJ ..,rfl,rfl⟩,λz hz=>?_⟩,rfl⟩
    · intro e he
      simp only[BR,List.not_mem_nil,or_false]at he;rcases he with rfl|rfl
      · have h0:∀ (j:Nat) (l':Leaf),[Leaf.bp (B0+t) 0][j]?=some l'->j=0/\l'=.bp (B0+t) 0:=λj l' M=>by
          cases j with
          |zero=>simp at M;exact⟨rfl,M.symm⟩
          |succ j=>simp at M
        exact { len := rfl
                one:=λu hu=>by simp at hu;subst hu;rfl
                leaf:=λV W st hw J X hb j l' u y H=>by
                  obtain⟨rfl,rfl⟩:=h0 j l' y;simp at H;subst H;obtain⟨q1,q2,q3⟩:=hb (B0+t,g) (BY _);exact⟨q1,q2,by rw[q3]⟩
                own:=λj l' y H=>by obtain⟨_,rfl⟩:=h0 j l' y;exact H.elim
                sep:=λj j' l1 l2 y H=>by obtain⟨_,rfl⟩:=h0 j l1 y;exact H.elim
                box:=λhr=>absurd hr (by show ¬ B0<=t;omega) }
      · exact { len := by show (ap true a x.1).length = _; rw [cG, hm.len]
                one:=hm.one
                leaf:=λV W st _ J _ _ j l u y H=>m1 V W st (λk I=>.inr ⟨rfl,by rw[J];exact I⟩) j l u (hn j) y H
                own:=λj l y H k I=>BI _ (m2 j l (hn j) y H k I)
                sep:=λj j' l l' y H h5 h6=>m3 j j' l l' (hn j) (hn j') y H h5 h6
                box:=λ_=>⟨rfl,BJ ..,λj l y H I=>a0.1 (m2 j l (hn j) y H g I),⟨E,hg⟩,BY _⟩ }
    · simp only[PK.bx,CD]at hz
      subst hz;exact⟨rfl,_,BI _ (BY _),rfl,rfl⟩
  |hol a c off =>
    obtain⟨cs,u,b0,b1,E,e,xs,h1,h2,y,H,h5,h6⟩:=h;have a2:=bu.1 a0;have b5:b0.Nodup:=bu.2 λk=>by have:=a2 k;have:=h6 k;omega
    have ad:b1.Nodup:=bu.2 λk=>by have:=a2 k;have:=h6 k;omega
    have a4:∀ k,k∈b0->k∉b1:=λk I Z=>by
      have:=a2 k;have:=h6 k;have:=BZ.2 I;have:=BZ.2 Z;omega
    have a9:∀ k∈b0,k∈b:=λk I=>BZ.1 (by have:=h6 k;have:=BZ.2 I;omega)
    have b2:∀ k∈b1,k∈b:=λk I=>BZ.1 (by have:=h6 k;have:=BZ.2 I;omega)
    obtain⟨a5,m1,m2,m3⟩:=jb (P:=P) (p:=true) h2 b5;have Y:∀ j,j≠c->(some c:Option Nat)≠some (0+j):=λj M=>by simp;omega
    have b9:=mB (p:=true) H;rw[Nat.sub_zero]at b9;have bb:(ap true a x.1.1).getD c .dead=.own (true&&e.shy) none E e xs:=by rw[BS,b9];rfl
    refine⟨[⟨t,⟨0,bi a.isAgg,aU (ap true a x.1.1) c (.own (true&&e.shy) (some (x.1.2,off)) E e xs)⟩,cs,λj=>if j=c then b1 else a5 j,b,0⟩],
      ⟨by simp,?_,by simp,by simp,⟨_,BY _,rfl,kk h1⟩,by simp[PK.bx]⟩,?_⟩
    · intro en he
      simp only[CD]at he;subst he;have O:∀ (j:Nat) (l:Leaf),(aU (ap true a x.1.1) c (.own (true&&e.shy) (some (x.1.2,off)) E e xs))[j]?=some l->(j=c/\l=.own (true&&e.shy) (some (x.1.2,off)) E e xs)\/(j≠c/\(ap true a x.1.1)[j]?=some l):=by
        intro j l M;rcases aS _ _ _ _ _ M with ⟨q1,q2,_⟩|⟨q1,q2⟩
        · exact .inl ⟨q1,q2⟩
        · exact .inr ⟨q1,q2⟩
      exact { len := by show (aU (ap true a x.1.1) c _).length = _; simp only [aU, List.length_set]; rw [cG, h2.len]
              one:=h2.one
              leaf:=λV W st _ J _ _ j l u' h7 h8=>by
                have h8:cs[j]?=some u':=h8;rcases O j l h7 with ⟨rfl,rfl⟩|⟨M,h7⟩
                · rw[y]at h8
                  simp only[BD]at h8;subst h8;simp only[if_true];exact⟨ad,OwB.shy (p:=true) (h5.carry (λk I=>.inr ⟨rfl,by rw[J];exact I⟩) (λ_ _=>rfl) (λ_ _=>rfl))⟩
                · simp only[if_neg M]
                  exact m1 V W st (λk I=>.inr ⟨rfl,by rw[J];exact I⟩) j l u' (Y j M) h7 h8
              own:=λj l h7 h8 k I=>by
                rcases O j l h7 with ⟨rfl,rfl⟩|⟨M,h7⟩
                · simp only[if_true]at I;exact b2 k I
                · simp only[if_neg M]at I;exact a9 k (m2 j l (Y j M) h7 h8 k I)
              sep:=λj j' l l' h7 h8 h9 b3 k I Z=>by
                rcases O j l h7 with ⟨rfl,rfl⟩|⟨M,h7⟩ <;> rcases O j' l' h9 with ⟨rfl,rfl⟩|⟨a3,h9⟩
                · rfl
                · simp only[if_true]at I;simp only[if_neg a3]at Z
                  exact absurd I (a4 k (m2 j' l' (Y j' a3) h9 b3 k Z))
                · simp only[if_neg M]at I;simp only[if_true]at Z
                  exact absurd Z (a4 k (m2 j l (Y j M) h7 h8 k I))
                · simp only[if_neg M]at I;simp only[if_neg a3]at Z
                  exact m3 j j' l l' (Y j M) (Y j' a3) h7 h8 h9 b3 k I Z
              box:=λhr=>absurd hr (by show ¬ B0<=t;omega) }
    · show (t,(⟨0,bi a.isAgg,aU (ap true a x.1.1) c (uL x.1.2 off ((ap true a x.1.1).getD c .dead))⟩:bR))::c8 (t+1) ps x.2=_
      rw[bb];rfl
theorem tY:∀ {ps:List PK} {x:ab ps} {u:List Value} {r:List (List Nat)},db P w ro pr ps x u r->u.length=ps.length
 |[],_,_,_,h=>by rw[h.1];rfl
 |_::_,_,_,_,⟨_,_,_,_,e,_,_,h⟩=>by rw[e,CJ,CJ,tY h]
theorem vu:∀ (ps:List PK) (x:ab ps) (Z:List Value) (H:List (List Nat)) (t:Nat),db P w ro pr ps x Z H->H.flatten.Nodup->t+ps.length<=B0 ->
  ∃ X:List Ent,c8 t ps x=X.map (λe=>(e.r,e.c))/\X.flatMap (·.bl)=H.flatten/\(∀ e∈X,qj P w ro pr (ee t ps Z) e) /\
   (∀ e∈X,(t<=e.r/\e.r<t+ps.length)\/(B0+t<=e.r/\e.r<B0+t+ps.length))/\(X.map (·.r)).Nodup /\
   (∀ (i:Nat) (v:Value),Z[i]?=some v->∃ e∈X,e.r=t+i/\ek e.c.sh v e.cs)/\(∀ z∈ee t ps Z,∃ e∈X,e.r=z.1/\e.g=z.2/\B0<=z.1)
 |[],x,Z,H,t,⟨e1,e2⟩,_,_=>by
  subst e1;subst e2;exact⟨[],rfl,rfl,by simp,by simp,by simp,λi v h=>by simp at h,by simp[ee]⟩
 |pk::ps,x,Z,H,t,⟨v,O,b,a1,e1,e2,h1,h2⟩,Y,hB=>by
  subst e1;subst e2;rw[BT,CK]at Y;simp only[CJ]at hB;obtain⟨a3,M,p2⟩:=Bw t (by omega) (ps:=ps) (x:=x) Y.1 h1;obtain⟨a5,q1,q2,q3,q4,q5,q6,q7⟩:=vu ps x.2 O a1 (t+1) h2 Y.2.1 (by omega);have a0:ee t (pk::ps) (v::O)=pk.bx t v++ee (t+1) ps O:=by cases pk <;> rfl
  refine⟨a3++a5,by rw[p2,q1,CU],by rw[List.flatMap_append,M.bl,q2,BT],λe y=>?_,λe y=>?_,?_,λi u hi=>?_,λz I=>?_⟩
  ·rw[a0];rcases BE.1 y with y|y
   ·exact (M.ok e y).mono (λz I=>BG _ I)
   ·exact (q3 e y).mono (λz I=>BH _ I)
  ·simp only[CJ];rcases BE.1 y with y|y
   ·rcases M.at_ e y with h|h <;> omega
   ·rcases q4 e y with h|h <;> omega
  ·rw[CU,CK];refine⟨M.nod,q5,λa ha b' a2 e0=>?_⟩;subst e0;obtain⟨e,y,rfl⟩:=BO.1 ha;obtain⟨e',a4,e1⟩:=BO.1 a2;rcases M.at_ e y with h|h <;> rcases q4 e' a4 with h'|h' <;> omega
  ·cases i with
   |zero =>
    simp at hi;subst hi;obtain⟨e,y,h3,J⟩:=M.slot;exact⟨e,BG _ y,by omega,J⟩
   |succ i =>
    obtain⟨e,y,h3,J⟩:=q6 i u (by simpa using hi);exact⟨e,BH _ y,by omega,J⟩
  ·rw[a0]at I;rcases BE.1 I with I|I
   ·obtain⟨h3,e,y,J,h5⟩:=M.bxs z I;exact⟨e,BG _ y,by rw[J,h3],h5,by rw[h3];exact Nat.le_add_right _ _⟩
   ·obtain⟨e,y,J,h5,h6⟩:=q7 z I;exact⟨e,BH _ y,J,h5,h6⟩
def ge (w:World)(ro:Nat->Prop)(ps:List PK)(u:List Value)(r:List (List Nat))(nt:Nat):Env:=⟨w,ro,r.flatten,nt,ee 0 ps u,eh 0 ps u⟩
theorem nW:∀ {J:List Ent},(J.flatMap (·.bl)).Nodup->∀ e∈J,∀ y∈J,∀ k,k∈e.bl->k∈y.bl->e=y
 |[],_,e,M,_,_,_,_,_=>by simp at M
 |x::J,r,e,M,y,O,k,I,u=>by
  rw[List.flatMap_cons,CK]at r;rcases BR.1 M with H|H <;> rcases BR.1 O with z|z
  ·rw[H,z]
  ·rw[H]at I;exact absurd rfl (r.2.2 k I k (BW.2 ⟨y,z,u⟩))
  ·rw[z]at u;exact absurd rfl (r.2.2 k u k (BW.2 ⟨e,H,I⟩))
  ·exact nW r.2.1 e H y z k I u
theorem yf:∀ {I:List Ent},(I.map (·.r)).Nodup->∀ e∈I,∀ y∈I,e.r=y.r->e=y
 |[],_,e,J,_,_,_=>by simp at J
 |x::I,u,e,J,y,M,O=>by
  rw[B4,CE]at u;rcases BR.1 J with H|H <;> rcases BR.1 M with z|z
  ·rw[H,z]
  ·exact absurd (BO.2 ⟨y,z,by rw[<- O,H]⟩) u.1
  ·exact absurd (BO.2 ⟨e,H,by rw[O,z]⟩) u.1
  ·exact yf u.2 e H y z O
theorem rN:∀ (u:List Ent) (q:Nat),(av (u.map λe=>(e.r,e.c)) q=bR.none/\u.find? (λe=>e.r==q)=none)\/∃ e∈u,e.r=q/\u.find? (λe=>e.r==q)=some e/\av (u.map λe=>(e.r,e.c)) q=e.c
 |[],q=>.inl ⟨rfl,rfl⟩
 |e::u,q=>by
  by_cases h:e.r=q
  ·refine .inr ⟨e,BJ ..,h,by simp[h],?_⟩;simp[av,ac,h]
  ·have y:BM q e.r=false:=by
    cases y:BM q e.r with
    |false=>rfl
    |true=>exact absurd (BK y).symm h
   have J:av ((e::u).map λe=>(e.r,e.c)) q=av (u.map λe=>(e.r,e.c)) q:=by simp[av,ac,y]
   have M:(e::u).find? (λe=>e.r==q)=u.find? (λe=>e.r==q):=by simp[h]
   rw[J,M];rcases rN u q with z|⟨I,z,O,H,X⟩
   ·exact .inl z
   ·exact .inr ⟨I,BI _ z,O,H,X⟩
theorem vv:∀ {ps:List PK} {r:List Value} {t:Nat} {z:Nat×Value},z∈eh t ps r->∃ i,z.1=t+i/\r[i]?=some z.2
 |[],_,_,_,h=>by simp[eh]at h
 |u::ps,[],_,_,h=>by cases u <;> simp[eh]at h
 |u::ps,v::r,t,z,h=>by
  have:z=(t,v)\/z∈eh (t+1) ps r:=by cases u <;> simp[eh]at h <;> first|exact h|exact .inr h
  rcases this with rfl|h
  ·exact⟨0,rfl,rfl⟩
  ·obtain⟨i,H,y⟩:=vv h;exact⟨i+1,by omega,by simpa using y⟩
theorem vw {ps:List PK}{x:ab ps}{M:List Value}{J:List (List Nat)}{nt:Nat}(h:db P w ro (λk=>k<w.heap.size/\k∉J.flatten) ps x M J)(a2:J.flatten.Nodup)
  (c4:ps.length<=nt) (hB:nt<=GH):Rel P (ge w ro ps M J nt) (av (c8 0 ps x)) { tmps:=M.toArray++CF (nt-M.length) undef,defers:=[] } w:=by
 have c3:=tY h;have cb:GH<=B0:=by decide
 obtain⟨Y,q1,q2,q3,q4,q5,q6,q7⟩:=vu ps x M J 0 h a2 (by omega);rw[q1];have c2:=rN Y;have a3:∀ e∈Y,∀ H∈Y,e.r=H.r->e=H:=by
  intro e he H b3 hr;exact yf q5 e he H b3 hr
 rw[<- q2]at a2;have a0:∀ e∈Y,∀ k∈e.bl,k∈J.flatten:=λe he k Z=>by rw[<- q2];exact BW.2 ⟨e,he,Z⟩
 have hE:∀ q,(av (Y.map λe=>(e.r,e.c)) q=bR.none/\Y.find? (λe=>e.r==q)=none)\/∃ e∈Y,e.r=q/\Y.find? (λe=>e.r==q)=some e/\av (Y.map λe=>(e.r,e.c)) q=e.c:=c2;have a1:∀ q,live (av (Y.map λe=>(e.r,e.c))) q->∃ e∈Y,e.r=q/\B0<=e.r/\Y.find? (λe=>e.r==q)=some e:=by
  rintro q ⟨h1,h2⟩;rcases hE q with ⟨I,_⟩|⟨e,I,y,h5,O⟩
  ·rw[I]at h2;cases h2
  ·exact⟨e,I,y,by rw[y];exact h1,h5⟩
 let β:Nat->Nat:=λq=>match Y.find? (λe=>e.r==q) with|some e=>e.g|none=>0
 let cs:Nat->List Value:=λq=>match Y.find? (λe=>e.r==q) with|some e=>e.cs|none=>[]
 let bs:Nat->Nat->List Nat:=λq j=>match Y.find? (λe=>e.r==q) with|some e=>e.bs j|none=>[]
 have a9:∀ z∈ee 0 ps M,B0<=z.1/\(av (Y.map λe=>(e.r,e.c)) z.1).sh=.agg/\β z.1=z.2:=by
  intro z hz;obtain⟨e,he,h1,h2,I⟩:=q7 z hz;refine⟨I,?_⟩;rcases hE z.1 with ⟨_,y⟩|⟨H,y,h5,O,h7⟩
  ·exfalso;rw[Cy]at y;exact y e he (by simp[h1])
  ·have:H=e:=a3 H y e he (by rw[h5,h1]);subst this;rw[h7];exact⟨((q3 H he).box (by rw[h1];exact I)).1,by simp only[β,O];exact h2⟩
 refine⟨{ β:=β,cs:=cs,bs:=bs,nw:=λ_=>False },?_⟩;have bb:(ge w ro ps M J nt).prot=λk=>k<w.heap.size/\k∉J.flatten:=rfl
 exact {
  nt:=by show (M.toArray++CF (nt-M.length) undef).size=nt;simp;omega
  df:=rfl
  slots:=λt ht=>by
   show ek _ ((M.toArray++CF (nt-M.length) undef).getD t undef) (cs t);by_cases hq:t<ps.length
   ·have hv:=BU (show t<M.length by omega);have:(M.toArray++CF (nt-M.length) undef).getD t undef=M[t]:=by
     rw[BQ,CZ (by simp;omega)];simp[hv]
    rw[this];obtain⟨e,he,h1,h2⟩:=q6 t _ hv;rw[CN]at h1;rcases hE t with ⟨_,y⟩|⟨H,y,h5,O,h7⟩
    ·exfalso;rw[Cy]at y;exact y e he (by simp[h1])
    ·have:H=e:=a3 H y e he (by rw[h5,h1]);subst this;rw[h7];simp only[cs,O];exact h2
   ·rcases hE t with ⟨I,y⟩|⟨H,y,h5,O,h7⟩
    ·rw[I];simp only[cs,y];rfl
    ·rcases q4 H y with h8|h8 <;> omega
  boxes:=λb hb=>by
   rcases hE b with ⟨I,y⟩|⟨H,y,h5,O,h7⟩
   ·rw[I];exact .inl ⟨rfl,rfl⟩
   ·obtain⟨g1,g2,g3,⟨E,g4⟩,g5⟩:=(q3 H y).box (by rw[h5];exact hb);rw[h7];exact .inr ⟨g1,E,by simp only[β,cs,O];exact g4⟩
  len:=λq=>by
   rcases hE q with ⟨I,y⟩|⟨H,y,h5,O,h7⟩
   ·rw[I];simp only[cs,y];rfl
   ·rw[h7];simp only[cs,O];exact (q3 H y).len
  one:=λq u hu=>by
   have hu:u∈cs q:=hu;rcases hE q with ⟨I,y⟩|⟨H,y,h5,O,h7⟩
   ·simp only[cs,y]at hu;simp at hu
   ·simp only[cs,O]at hu;exact (q3 H y).one u hu
  leaf:=λq j l v X hv=>by
   have hv:(cs q)[j]?=some v:=hv;rcases hE q with ⟨I,y⟩|⟨H,y,h5,O,h7⟩
   ·rw[I]at X;simp[bR.none]at X
   ·rw[h7]at X;simp only[cs,O]at hv;show aK P _ _ _ w (bs q j) l v;simp only[bs,O];exact (q3 H y).leaf (ge w ro ps M J nt) _ _ rfl rfl rfl a9 j l v X hv
  ownb:=λq j l X ho k Z=>by
   have Z:k∈bs q j:=Z;rcases hE q with ⟨I,y⟩|⟨H,y,h5,O,h7⟩
   ·rw[I]at X;simp[bR.none]at X
   ·rw[h7]at X;simp only[bs,O]at Z;have b2:=(q3 H y).own j l X ho k Z;refine⟨id,λhp=>hp.2 (a0 H y k b2),λb hb e0=>?_⟩;obtain⟨e2,g1,g2,g3,g4⟩:=a1 b hb;have a6:=(q3 e2 g1).box g3;have e0:β b=k:=e0;simp only[β,g4]at e0;have:=nW a2 H y e2 g1 k b2 (by rw[<- e0];exact a6.2.1);subst this;exact a6.2.2.1 j l X ho (by rw[e0];exact Z)
  sep:=λq j l q' j' l' X ho a4 b0 k Z a5=>by
   have Z:k∈bs q j:=Z;have a5:k∈bs q' j':=a5;rcases hE q with ⟨I,y⟩|⟨e1,y,h5,O,h7⟩
   ·rw[I]at X;simp[bR.none]at X
   ·rcases hE q' with ⟨b5,ad⟩|⟨e2,ad,b9,c1,bx⟩
    ·rw[b5]at a4;simp[bR.none]at a4
    ·rw[h7]at X;rw[bx]at a4;simp only[bs,O]at Z;simp only[bs,c1]at a5;have:=nW a2 e1 y e2 ad k ((q3 e1 y).own j l X ho k Z) ((q3 e2 ad).own j' l' a4 b0 k a5);subst this;exact⟨by rw[<- h5,<- b9],(q3 e1 y).sep j j' l l' X ho a4 b0 k Z a5⟩
  box:=λb hb=>by
   obtain⟨e2,g1,g2,g3,g4⟩:=a1 b hb;have a6:=(q3 e2 g1).box g3;refine⟨id,λhp=>hp.2 ?_⟩;show β b∈_;simp only[β,g4];exact a0 e2 g1 _ a6.2.1
  inj:=λb b' hb ba e0=>by
   obtain⟨e1,g1,g2,g3,g4⟩:=a1 b hb;obtain⟨e2,b1,bn,b4,c0⟩:=a1 b' ba;have e0:β b=β b':=e0;simp only[β,g4,c0]at e0;have:=nW a2 e1 g1 e2 b1 e1.g ((q3 e1 g1).box g3).2.1 (by rw[e0];exact ((q3 e2 b1).box b4).2.1);subst this;rw[<- g2,<- bn]
  nwlt:=λk Z=>Z.elim
  os:=rfl,tape:=rfl,output:=rfl,size:=Cn _,keep:=λ_ _=>rfl
  fixb:=λz hz=>by
   obtain⟨h1,h2,I⟩:=a9 z hz;exact⟨⟨h1,h2⟩,I⟩
  fixt:=λz hz=>by
   obtain⟨i,h1,h2⟩:=vv hz;rw[CN]at h1;show (M.toArray++CF (nt-M.length) undef).getD z.1 undef=z.2;rw[h1,BQ,CZ (by simpa using (BN.1 h2).1)];simp[h2] }
end
section
variable {P:Program} {V:Env} {W:Wit} {Γ:List Ctr} {T:TypeId->TI} {R:Type} {st:St} {a:Act} {w:World} {ro:Nat->Prop}
theorem Bx (hT:TOk P T)(h:an P V W st a w)(x:ResultVar)(I:pv st T x≠.off) :
  ∃ v M,(match x with|.tmp t=>(pure (a.tmps.getD t undef):Sem Value)|.cell b t=>(do loadVar t (<- asAddr (a.tmps.getD b undef)):Sem Value)).run P w=.ok v w /\
   ek (pv st T x) v M/\aB P V W st w (vB st T x) M:=by
 cases x with
 |tmp t =>
  obtain⟨M,h1,J⟩:=cU h (.tmp t);exact⟨_,M,rfl,h1,J⟩
 |cell t u =>
  simp only[pv]at I ⊢;split at I
  ·rename_i b off hb;cases X:decide ((st b).sh=.agg)&&Cp (off+(T u).cells) (st b).ls.length&&!BM (T u).cells 0 with
   |false=>rw[X]at I;exact absurd rfl I
   |true =>
    simp only[hb,X,cond_true,vB];simp only[BF,decide_eq_true_eq,CH]at X;obtain⟨⟨h1,J⟩,h3⟩:=X;have J:off+(T u).cells<=(st b).ls.length:=B9 J;have Z:T u≠.none:=by
     intro e;rw[e]at h3;simp[TI.cells]at h3
    obtain⟨hp,_,_,_,_⟩:=bt h (.tmp t) (by rw[hb];simp);rw[hb]at hp;obtain⟨hB,a0,H⟩:=hp;have H:a.tmps.getD t undef=.pointer (some ⟨W.β b,off,none⟩):=H;rcases h.boxes b hB with ⟨O,_⟩|⟨_,E,O⟩
    ·rw[a0]at O;cases O
    ·have r:cX w (W.β b) 0 (W.cs b):=λi v H=>by
      rw[CN,cell_of_row w (W.β b) i _ E (0,0) O];simpa using H
     have a1:=h.len b;have y:=r.sub off (T u).cells;rw[CN]at y;obtain⟨v,z,Y⟩:=oa (hT u) Z y (by simp;omega);refine⟨v,_,?_,Y,((iy h b).drop off).take _⟩;simp only[H];simpa[asAddr]using z
  ·exact absurd rfl I
def nG (a:Act):ResultVar->Sem Value
 |.tmp t=>pure (a.tmps.getD t undef)
 |.cell b t=>do loadVar t (<- asAddr (a.tmps.getD b undef))
def nH (P:Program)(a:Act)(w:World):List ResultVar->List Value->Prop
 |[],u=>u=[]
 |x::y,u=>∃ v r,u=v::r/\(nG a x).run P w=.ok v w/\nH P a w y r
theorem rO:∀ (l:List ResultVar) (u:List Value),nH P a w l u->(l.mapM (nG a)).run P w=.ok u w
 |[],_,h=>by rw[show _=_ from h];rfl
 |x::l,_,⟨v,r,e,z,y⟩=>by subst e;simp[Co,z,rO l r y]
theorem AL (b:Bool):bi b≠.off:=by cases b <;> simp[bi]
def RK.isBox:RK->Bool
 |.box _=>true
 |_=>false
theorem tZ (hV:ax V)(hT:TOk P T)(h:an P V W st a w)(a9:V.ro0=ro){fx:List Nat}:∀ (rs:List RK) (H:List ResultVar) (y:cI (ai rs)),kq st T fx rs H=some y ->
  ∀ {G:Nat->Prop},(∀ k,bo V W y.p y.frz k->G k) ->
  ∃ (us:List Value) (I:List (List Nat)) (bx:List Nat),nH P a w H us/\gw w G ro rs y.val us I/\(∀ k,I.flatten.count k=(aY W y.kill).count k+(bx.map W.β).count k) /\
   (∀ b∈bx,live st b/\fx.any (BM b)=false)/\bx.length=rs.countP RK.isBox/\(∀ z∈y.frz,aA st z)/\∀ z∈y.kill,aA st z
 |[],[],y,J,G,hG=>by
  simp only[kq,BD]at J;subst J;exact⟨[],[],[],rfl,⟨rfl,rfl⟩,λk=>by simp[aY],by simp,rfl,by simp,by simp⟩
 |[],_::_,_,J,_,_=>by simp[kq]at J
 |_::_,[],_,J,_,_=>by simp[kq]at J
 |r::rs,x::H,y,J,G,hG=>by
  simp only[kq]at J;cases O:decide (pv st T x=r.sh) with
  |false=>simp[O]at J
  |true =>
   simp only[O,cond_true]at J;have O:=of_decide_eq_true O;split at J
   ·rename_i X y2 u b3;simp only[BD]at J;subst J;obtain⟨v,a5,ad,M,a0⟩:=Bx hT h x (by rw[O];cases r <;> simp only[RK.sh] <;> first|exact AL _|simp);rw[O]at M;have a1:∀ k,bo V W X.p X.frz k->G k:=λk Y=>hG k (dU.1 k Y)
    have b4:∀ k,bo V W y2.p y2.frz k->G k:=λk Y=>hG k (dU.2 k Y)
    obtain⟨us,I,bx,i1,i2,i3,i4,i5,i6,i7⟩:=tZ hV hT h a9 rs H y2 b3 b4;have a3:(nG a x).run P w=.ok v w:=by cases x <;> exact ad
    have a2:∀ (b:List Nat) (Z:List Nat),p7 w G ro r X.val v b->(∀ k,b.count k=(aY W X.kill).count k+(Z.map W.β).count k)->(∀ b∈Z,live st b/\fx.any (BM b)=false)->Z.length=(if r.isBox then 1 else 0)->(∀ z∈X.frz,aA st z)->(∀ z∈X.kill,aA st z) ->
      ∃ (us:List Value) (I:List (List Nat)) (bx:List Nat),nH P a w (x::H) us/\gw w G ro (r::rs) (X.val,y2.val) us I/\(∀ k,I.flatten.count k=(aY W (X.kill++y2.kill)).count k+(bx.map W.β).count k) /\
       (∀ b∈bx,live st b/\fx.any (BM b)=false)/\bx.length=(r::rs).countP RK.isBox/\(∀ z∈X.frz++y2.frz,aA st z)/\∀ z∈X.kill++y2.kill,aA st z:=by
     intro b Z f1 f2 f3 f4 f5 f6;refine⟨v::us,b::I,Z++bx,⟨v,us,rfl,a3,i1⟩,⟨v,us,b,I,rfl,rfl,f1,i2⟩,λk=>?_,λz hz=>(BE.1 hz).elim (f3 z) (i4 z),?_,λz hz=>(BE.1 hz).elim (f5 z) (i6 z),λz hz=>(BE.1 hz).elim (f6 z) (i7 z)⟩
     ·rw[BT,BX,f2 k,i3 k,dL,BX,CU,BX];omega
     ·rw[List.length_append,f4,i5,C6];cases r.isBox <;> simp <;> omega
    cases r with
    |v b =>
     simp only[sd]at u;obtain⟨g1,g2,g3⟩:=dR (pos:=0) h a0 u;exact a2 (aY W X.kill) [] ⟨a5,gx M,g1.mono a1⟩ (λk=>by simp) (by simp) rfl g2 g3
    |bv b =>
     simp only[sd,BL]at u;obtain⟨⟨p,z⟩,hz,rfl⟩:=u;have g1:=eH h a0 hz;refine a2 [] [] ⟨rfl,a5,gx M,g1.mono λk Y=>?_⟩ (λk=>by simp[aY]) (by simp) rfl (λz hz=>eq a0 hz) (by simp);rcases Y with (Y|⟨_,Y⟩)|Y
     ·exact .inl (a1 k (.inl (.inl Y)))
     ·exact .inr (by rw[<- a9];exact Y)
     ·exact .inl (a1 k (.inr Y))
    |box b =>
     simp only[sd]at u;split at u
     ·rename_i b0 b5;cases a4:!(fx.any (BM b0)) with
      |false=>rw[a4]at u;cases u
      |true =>
       rw[a4]at u;simp only[cond_true]at u;have M:a5=[v]:=M;subst M;rw[b5]at a0;obtain⟨hB,b2,b1⟩:=a0.1.1;obtain⟨g1,g2,g3⟩:=dR (pos:=0) h (iy h b0) u;rcases h.boxes b0 hB with ⟨h8,_⟩|⟨_,E,h8⟩
       ·rw[b2]at h8;cases h8
       ·exact a2 (W.β b0::aY W X.kill) [b0] ⟨W.β b0,W.cs b0,E,_,b1,h8,g1.mono a1,rfl⟩ (λk=>by
         rw[CV,B4,DE,CV,List.count_nil];omega) (λb' a6=>by
         simp at a6;subst a6;exact⟨⟨hB,b2⟩,by simpa using a4⟩) rfl g2 g3
     ·cases u
   ·cases J
theorem mC (hV:ax V)(h:an P V W st a w){w0:World}{pr:Nat->Prop}(a9:V.nt<=GH):∀ (ps:List PK) (x:ab ps) (vs:List Value) (a4:List (List Nat)) (t:Nat) (o:cI (ah ps)),db P w0 ro pr ps x vs a4->hZ st t ps=some o->t+ps.length<=V.nt ->
  (∀ z∈eh t ps vs,a.tmps.getD z.1 undef=z.2)->(∀ z∈ee t ps vs,live st z.1/\W.β z.1=z.2)->∀ {G:Nat->Prop},(∀ k,bo V W o.p o.frz k->G k) ->
  ∃ r,bL w G ps o.val vs r/\(∀ k,r.flatten.count k=(aY W o.kill).count k+((bH t ps).map W.β).count k)/\(∀ z∈o.frz,aA st z)/\(∀ z∈o.kill,aA st z)/\∀ b∈bH t ps,live st b
 |[],x,vs,a4,t,o,⟨e1,e2⟩,y,_,_,_,G,hG=>by
  simp only[hZ,BD]at y;subst y;subst e1;exact⟨[],trivial,λk=>by simp[aY,bH],by simp,by simp,by simp[bH]⟩
 |pk::ps,x,vs,a4,t,o,⟨v,X,b,a0,e1,e2,h1,h2⟩,y,ht,a2,a1,G,hG=>by
  subst e1;subst e2;simp only[CJ]at ht;have u:∀ (o':cI (ah ps)),hZ st (t+1) ps=some o'->eh t (pk::ps) (v::X)=eh (t+1) ps X->ee t (pk::ps) (v::X)=ee (t+1) ps X->(∀ k,bo V W o'.p o'.frz k->G k) ->
    ∃ r,bL w G ps o'.val X r/\(∀ k,r.flatten.count k=(aY W o'.kill).count k+((bH (t+1) ps).map W.β).count k)/\(∀ z∈o'.frz,aA st z)/\(∀ z∈o'.kill,aA st z)/\∀ b∈bH (t+1) ps,live st b:=by
   intro o' b1 e1 e2 ad;exact mC hV h a9 ps x.2 X a0 (t+1) o' h2 b1 (by omega) (λz H=>a2 z (by rw[e1];exact H)) (λz H=>a1 z (by rw[e2];exact H)) ad
  cases pk with
  |io b =>
   simp only[hZ]at y;split at y
   ·rename_i y1 y2 Z a5;simp only[BD]at y;subst y;obtain⟨r,Y,I,O,M,J⟩:=mC hV h a9 ps x.2 X a0 (t+1) y2 h2 a5 (by omega) (λz H=>a2 z (BI _ H)) (λz H=>a1 z H) (λk hk=>hG k (dU.2 k hk));cases hb:decide ((au st (.tmp t)).1=bi b.isAgg) with
    |false=>rw[hb]at Z;cases Z
    |true =>
     rw[hb]at Z;simp only[cond_true]at Z;obtain⟨cs,h3,h4⟩:=cU h (.tmp t);rw[of_decide_eq_true hb]at h3;have hv:a.eval (.tmp t)=v:=a2 (t,v) (BJ ..);rw[hv]at h3;obtain⟨g1,g2,g3⟩:=dR (pos:=0) h h4 Z;refine⟨aY W y1.kill::r,⟨?_,Y⟩,λk=>?_,λz H=>(BE.1 H).elim (g2 z) (O z),λz H=>(BE.1 H).elim (g3 z) (M z),J⟩
     ·unfold jx;rw[if_neg (by simp)];exact⟨cs,gx h3,g1.mono (λk hk=>hG k (dU.1 k hk))⟩
     ·rw[BT,BX,I k,dL,BX];show _=_+((bH (t+1) ps).map W.β).count k;omega
   ·cases y
  |iop b =>
   simp only[hZ]at y;split at y
   ·rename_i y1 y2 Z a5;simp only[BD]at y;subst y;obtain⟨r,Y,I,O,M,J⟩:=mC hV h a9 ps x.2 X a0 (t+1) y2 h2 a5 (by omega) (λz H=>a2 z (BI _ H)) (λz H=>a1 z (BI _ H)) (λk hk=>hG k (dU.2 k hk));obtain⟨g,c,E,b0,hv,_,_,_⟩:=h1;subst hv;obtain⟨a6,hβ⟩:=a1 (B0+t,tX (.pointer (some ⟨g,0,none⟩))) (BJ ..);have hβ:W.β (B0+t)=g:=hβ;obtain⟨g1,g2,g3⟩:=dR (pos:=0) h (iy h (B0+t)) Z;rcases h.boxes (B0+t) a6.1 with ⟨h8,_⟩|⟨_,E',h8⟩
    ·have:=a6.2;rw[h8]at this;cases this
    ·refine⟨(g::aY W y1.kill)::r,⟨?_,Y⟩,λk=>?_,λz H=>(BE.1 H).elim (g2 z) (O z),λz H=>(BE.1 H).elim (g3 z) (M z),λb' a3=>?_⟩
     ·unfold jx;rw[if_pos rfl];exact⟨g,W.cs (B0+t),E',_,rfl,by rw[<- hβ];exact h8,g1.mono (λk hk=>hG k (dU.1 k hk)),rfl⟩
     ·rw[BT,BX,I k,dL,BX,CV];show _=_+(W.β (B0+t)::(bH (t+1) ps).map W.β).count k;rw[CV,hβ];omega
     ·rcases BR.1 a3 with rfl|a3
      ·exact a6
      ·exact J b' a3
   ·cases y
  |rd b =>
   obtain⟨r,Y,I,O,M,J⟩:=u o y rfl rfl hG;exact⟨[]::r,⟨rfl,Y⟩,λk=>by rw[BT,CC];exact I k,O,M,J⟩
  |own b =>
   obtain⟨r,Y,I,O,M,J⟩:=u o y rfl rfl hG;exact⟨[]::r,⟨rfl,Y⟩,λk=>by rw[BT,CC];exact I k,O,M,J⟩
  |rref b =>
   obtain⟨r,Y,I,O,M,J⟩:=u o y rfl rfl hG;exact⟨[]::r,⟨rfl,Y⟩,λk=>by rw[BT,CC];exact I k,O,M,J⟩
  |rref2 b =>
   obtain⟨r,Y,I,O,M,J⟩:=u o y rfl rfl hG;exact⟨[]::r,⟨rfl,Y⟩,λk=>by rw[BT,CC];exact I k,O,M,J⟩
  |fn As B =>
   obtain⟨r,Y,I,O,M,J⟩:=u o y rfl rfl hG;exact⟨[]::r,⟨rfl,Y⟩,λk=>by rw[BT,CC];exact I k,O,M,J⟩
  |clo f cs =>
   obtain⟨r,Y,I,O,M,J⟩:=u o y rfl rfl hG;exact⟨[]::r,⟨rfl,Y⟩,λk=>by rw[BT,CC];exact I k,O,M,J⟩
  |hol b c off =>
   obtain⟨r,Y,I,O,M,J⟩:=u o y rfl rfl hG;exact⟨[]::r,⟨rfl,Y⟩,λk=>by rw[BT,CC];exact I k,O,M,J⟩
end
section
variable {P:Program} {Γ:List Ctr} {T:TypeId->TI} {w:World} {ro:Nat->Prop}
theorem uI {fn:Func}{a:Act}{w:World}{r:List Value}(h:nH P a w fn.results.toList r):(results fn a.tmps).run P w=.ok (if h:r.toArray.size=1 then r.toArray[0] else .tuple r.toArray) w:=by
 have z:=rO _ _ h;have e:results fn a.tmps=(fn.results.mapM (nG a) >>= λu=>pure (if h:u.size=1 then u[0] else .tuple u)):=by
  unfold results;congr 1
 have y:(fn.results.mapM (nG a)).run P w=.ok r.toArray w:=by
  rw[Array.mapM_eq_mapM_toList];simp[z]
 rw[e];simp only[CR,y,CL,C0]
theorem By (us:List Value):sn us (if h:us.toArray.size=1 then us.toArray[0] else .tuple us.toArray):=by
 match us with
 |[]=>rfl
 |[u]=>rfl
 |u::r::us =>
  rw[dif_neg (by simp)];rfl
theorem rP:∀ (ps:List PK) (t:Nat),(bH t ps).Nodup/\∀ b∈bH t ps,B0+t<=b
 |[],t=>⟨Ca,by simp[bH]⟩
 |I::ps,t=>by
  obtain⟨z,y⟩:=rP ps (t+1);have u:∀ b∈bH (t+1) ps,B0+t<=b:=λb r=>by have:=y b r;omega
  cases I with
  |iop a =>
   refine⟨CE.2 ⟨λH=>?_,z⟩,λb r=>?_⟩
   ·have:=y _ H;omega
   ·rcases BR.1 r with rfl|r
    ·exact Cn _
    ·exact u b r
  |_=>exact⟨z,u⟩
theorem Bz {u:List RK}(h:qo u=true):u.countP RK.isBox<=1:=by
 unfold qo at h;split at h
 ·simp[RK.isBox]
 ·rw[Cs.2]
  ·exact C8 _
  ·intro r y;rw[B3]at h;have:=h r y;cases r <;> simp[RK.isV,RK.isBox]at this ⊢
theorem rQ {β:Nat->Nat}:∀ {bs:List Nat},bs.Nodup->(∀ b∈bs,∀ u∈bs,β b=β u->b=u)->(bs.map β).Nodup
 |[],_,_=>Ca
 |b::bs,z,H=>by
  rw[CE]at z;rw[B4,CE];refine⟨λI=>?_,rQ z.2 (λx J y M=>H x (BI _ J) y (BI _ M))⟩;obtain⟨u,r,e⟩:=BO.1 I;have:=H u (BI _ r) b (BJ ..) e;exact z.1 (by rw[<- this];exact r)
theorem yg (hT:TOk P T){c:Ctr}(c1:qo c.rs=true){vs:List Value}{J:List (List Nat)}{fn:Func}{nt:Nat}(hV:ax (ge w ro c.ps vs J nt)){x:ab c.ps}{pr:Nat->Prop}(b4:db P w ro pr c.ps x vs J)(cc:c.ps.length<=nt){ex:Ex}{s1:St}{y:ai c.rs×ah c.ps}
  (r:c5 T c.ps c.rs c.fresh fn.results.toList ex s1=some y) {a:Act} {w':World} (u:Rel P (ge w ro c.ps vs J nt) s1 a w') :
  (ex=.normal\/ex=.ret)/\∃ v,(results fn a.tmps).run P w'=.ok v w'/\tD c w ro vs J y (.returned v) w':=by
 obtain⟨W,u⟩:=u;have b9:ex=.normal\/ex=.ret:=by
  cases ex with
  |normal=>exact .inl rfl
  |ret=>exact .inr rfl
  |exit id=>cases r
 refine⟨b9,?_⟩;have r:finR T c.ps c.rs c.fresh fn.results.toList s1=some y:=by
  rcases b9 with rfl|rfl <;> exact r
 unfold finR at r;split at r
 ·rename_i O M c2 cb;cases X:a7 (O.kill++M.kill)&&dE (O.frz++M.frz) (O.kill++M.kill)&&(!c.fresh||!(O.p||M.p)) with
  |false=>rw[X]at r;cases r
  |true =>
   rw[X]at r;simp only[cond_true,BD]at r;subst r;simp only[BF]at X;obtain⟨⟨bl,c3⟩,ba⟩:=X;let N:Nat->Prop:=λk=>W.nw k\/∃ z∈O.frz++M.frz,k∈W.bs z.1 z.2
   have hG:∀ (p:Bool) (b3:List (Nat×Nat)),(p=true->(O.p||M.p)=true)->(∀ z∈b3,z∈O.frz++M.frz)->∀ k,bo (ge w ro c.ps vs J nt) W p b3 k->N k\/(c.fresh=false/\ro k):=by
    intro p b3 hp H k I;rcases I with (I|⟨hq,I⟩)|⟨z,Z,I⟩
    ·exact .inl (.inl I)
    ·refine .inr ⟨?_,I⟩;rw[hp hq]at ba;simpa using ba
    ·exact .inl (.inr ⟨z,H z Z,I⟩)
   obtain⟨us,b2,bx,r1,r2,r3,r4,r5,r6,r7⟩:=tZ hV hT u rfl c.rs fn.results.toList O c2 (G:=λk=>N k\/(c.fresh=false/\ro k)) (hG O.p O.frz (by intro h;simp[h]) (λz H=>BG _ H));obtain⟨b1,o1,o2,o3,o4,o5⟩:=mC hV u hV.nt c.ps x vs J 0 M b4 cb (by rw[CN];exact cc) (λz H=>u.fixt z H) (λz H=>u.fixb z H) (G:=λk=>N k\/(c.fresh=false/\ro k)) (hG M.p M.frz (by intro h;simp[h]) (λz H=>BH _ H));have a2:∀ z∈O.kill++M.kill,aA s1 z:=λz H=>(BE.1 H).elim (r7 z) (o4 z)
   have a1:∀ z∈O.frz++M.frz,aA s1 z:=λz H=>(BE.1 H).elim (r6 z) (o3 z)
   have a4:∀ k,k<w'.heap.size->¬ (ge w ro c.ps vs J nt).prot k->p8 w w' J.flatten k:=by
    intro k I hp;refine⟨I,?_⟩;by_cases c4:k<w.heap.size
    ·right;apply B8;intro hn;exact hp ⟨c4,hn⟩
    ·exact .inl (by omega)
   have c0:∀ k,N k->p8 w w' J.flatten k:=by
    rintro k (I|⟨z,H,I⟩)
    ·exact a4 k (u.nwlt k I).1 (u.nwlt k I).2
    ·obtain⟨l,h7,h8⟩:=a1 z H;exact a4 k (u.own_lt h7 h8 k I) (u.ownb z.1 z.2 l h7 h8 k I).2.1
   have Y:∀ b∈bx++bH 0 c.ps,live s1 b:=λb R=>(BE.1 R).elim (λR=>(r4 b R).1) (o5 b)
   have bb:(bx++bH 0 c.ps).Nodup:=by
    rw[CK];refine⟨?_,(rP c.ps 0).1,λb R b' ad e=>?_⟩
    ·have:=Bz c1;rw[<- r5]at this
     match bx,this with
     |[],_=>exact Ca
     |[b],_=>simp
    ·subst e;have:=Cc.1 (r4 b R).2 b ad;simp at this
   have a6:=rQ (β:=W.β) bb (λb R b' ad e=>u.inj b b' (Y b R) (Y b' ad) e);have a5:∀ k,(b1.flatten++b2.flatten).count k=(aY W (O.kill++M.kill)).count k+((bx++bH 0 c.ps).map W.β).count k:=λk=>by
    rw[BX,o2 k,r3 k,dL,BX,CU,BX];omega
   have bn:=bu.1 (gN u bl a2);have b0:∀ k∈b1.flatten++b2.flatten,(∃ z∈O.kill++M.kill,k∈W.bs z.1 z.2)\/∃ b,live s1 b/\W.β b=k:=λk I=>by
    have h5:=BZ.2 I;rw[a5 k]at h5;by_cases h6:k∈aY W (O.kill++M.kill)
    ·exact .inl (gl.1 h6)
    ·have:=Cb.2 h6;obtain⟨b,R,e⟩:=BO.1 (BZ.1 (show 0<((bx++bH 0 c.ps).map W.β).count k by omega));exact .inr ⟨b,Y b R,e⟩
   refine⟨_,uI r1,_,us,N,b1,b2,rfl,By us,u.size,u.os,u.tape,u.output,λk h1 h2=>u.keep k ⟨h1,h2⟩,c0,o1,r2,bu.2 λk=>?_,λk I=>?_⟩
   ·rw[a5 k];have h5:=bn k;have h6:=bu.1 a6 k;by_cases h7:k∈(bx++bH 0 c.ps).map W.β
    ·have:(aY W (O.kill++M.kill)).count k=0:=Cb.2 λhm=>by
      obtain⟨b,R,e⟩:=BO.1 h7;obtain⟨z,H,a3⟩:=gl.1 hm;obtain⟨l,hl,ho⟩:=a2 z H;exact (u.ownb z.1 z.2 l hl ho k a3).2.2 b (Y b R) e
     omega
    ·have:=Cb.2 h7;omega
   ·rcases b0 k I with ⟨z,H,a3⟩|⟨b,R,e⟩
    ·obtain⟨l,hl,ho⟩:=a2 z H;have h9:=u.ownb z.1 z.2 l hl ho k a3;refine⟨a4 k (u.own_lt hl ho k a3) h9.2.1,?_⟩;rintro (hn|⟨z',Z,a0⟩)
     ·exact h9.1 hn
     ·obtain⟨l',b5,a9⟩:=a1 z' Z;obtain⟨e1,e2⟩:=u.sep z.1 z.2 l z'.1 z'.2 l' hl ho b5 a9 k a3 a0;exact nL c3 z' Z (by rw[show z'=z from Prod.ext e1.symm e2.symm];exact H)
    ·subst e;have h9:=u.box b R;refine⟨a4 _ (u.box_lt R) h9.2,?_⟩;rintro (hn|⟨z',Z,a0⟩)
     ·exact h9.1 hn
     ·obtain⟨l',b5,a9⟩:=a1 z' Z;exact (u.ownb z'.1 z'.2 l' b5 a9 _ a0).2.2 b R rfl
 ·cases r
theorem kh:∀ {ps:List PK} {u:List Value} {t:Nat} {z:Nat×Value},z∈eh t ps u->z.1∈gj t ps
 |[],_,_,_,h=>by simp[eh]at h
 |r::ps,[],_,_,h=>by cases r <;> simp[eh]at h
 |r::ps,v::u,t,z,h=>by
  cases r <;> simp only[eh,gj,BR]at h ⊢ <;> first
   |exact kh h
   |exact h.imp (λe=>by rw[e]) kh
theorem ki:∀ {ps:List PK} {u:List Value} {t:Nat} {z:Nat×Nat},z∈ee t ps u->z.1∈bH t ps
 |[],_,_,_,h=>by simp[ee]at h
 |r::ps,[],_,_,h=>by cases r <;> simp[ee]at h
 |r::ps,v::u,t,z,h=>by
  cases r <;> simp only[ee,bH,BR]at h ⊢ <;> first
   |exact ki h
   |exact h.imp (λe=>by rw[e]) ki
theorem d6 {f:FuncId}{fn:Func}{c:Code}(z:P.funcs[f]?=some fn)(H:(fn.name== "runtime.NumGoroutine")=false) (y:fn.body=some c):fU P f:=by
 intro u w;have r:fn.name≠ "runtime.NumGoroutine" := by simpa using H
 simp[callFunc,z,r,y]
theorem pj (hT:TOk P T)(hΓ:∀ c∈Γ,bP P c)(O:P.follows .mixedOrders=true){c:Ctr}{fn:Func}(hf:P.funcs[c.f]?=some fn)(hn:(fn.name== "runtime.NumGoroutine")=false)
  {L:List (Nat×List (Nat×List Coe))} {M:Nat} (hb:fn.body.isSome=true) (Y:∀ x,evF Γ T L M fn c.ps c.rs c.fresh x=c.den x):bP P c:=by
 obtain⟨u,hb⟩:=Option.isSome_iff_exists.1 hb;refine⟨d6 hf hn hb,λw ro x vs a0 y H a3 a4 J=>?_⟩;rw[<- Y]at J;unfold evF at J;simp only[hb]at J;cases r:dS fn.ntmps (gj 0 c.ps) u&&Cp c.ps.length fn.ntmps&&Cp fn.ntmps GH&&qo c.rs&&dq L (bH 0 c.ps) u with
 |false=>simp[r]at J
 |true =>
  simp only[r,cond_true]at J;simp only[BF]at r;obtain⟨⟨⟨⟨h1,h2⟩,h3⟩,h4⟩,h5⟩:=r;have h2:=B9 h2;have h3:=B9 h3;have hV:ax (ge w ro c.ps vs a0 fn.ntmps):=⟨λk hk=>a3 k hk,h3⟩;have R:=vw (P:=P) (ro:=ro) H a4 h2 h3;refine calls_of_wp hf hb ?_;rw[C3];refine sq hV hT hΓ O (λz hz=>ki hz) (nt:=fn.ntmps) (fix:=gj 0 c.ps) rfl (λz hz=>kh hz) u h1 h5 _ _ y _ J (λex s1 Z a' w' hr=>?_) _ _ R;obtain⟨a2,v,X,I⟩:=yg hT h4 hV H h2 Z hr;have a1:a'.defers=[]:=by obtain⟨W,hr⟩:=hr;exact hr.df
  rcases a2 with rfl|rfl <;> exact⟨a1,v,X,I⟩
end
section
variable {P:Program}
def szB (P:Program)(t:TypeId)(n:Nat):Bool :=
 match P.info? t with
 |some i=>BM i.size n
 |none=>false
theorem fR {t:TypeId}{n:Nat}(h:szB P t n=true):bQ P t n:=by
 unfold szB at h;unfold bQ;split at h
 ·rename_i i r;rw[r];simp only[B6];rw[BK h]
 ·cases h
def ua (P:Program)(t:TypeId)(agg:Bool):Bool :=
 match P.underlying t with
 |some (.struct _)|some (.array _ _)=>agg
 |some _=>!agg
 |none=>false
theorem qR {t:TypeId}{agg:Bool}(h:ua P t agg=true):(P.underlying t).map (λd=>match d with|.struct _|.array _ _=>true|_=>false)=some agg:=by
 unfold ua at h;split at h
 ·rename_i r;rw[r];simp[h]
 ·rename_i r;rw[r];simp[h]
 ·rename_i d y u r;rw[r];simp only[B6,BD];cases agg with
  |true=>cases h
  |false =>
   cases d <;> first|rfl|(exact absurd r (y _))|(exact absurd r (u _ _))
 ·cases h
theorem AM {t:TypeId}{agg:Bool}(h:(P.underlying t).map (λd=>match d with|.struct _|.array _ _=>true|_=>false)=some agg)(w:World):(isAgg t).run P w=.ok agg w:=by
 unfold isAgg;cases r:P.underlying t with
 |none=>simp[r]at h
 |some u =>
  rw[r]at h;simp only[B6,BD]at h;subst h;rw[CR,run_underlying r w];cases u <;> rfl
def lN (P:Program)(f:Field)(off:Nat)(b:Ty):Bool:=(f.name != "_")&&BM f.offset off&&szB P f.type b.cells&&ua P f.type b.isAgg
def eqF (P:Program)(g:Ty->TypeId->Bool):List Field->Nat->Ty->Bool
 |[],_,_=>false
 |[f],off,b=>lN P f off b&&g b f.type
 |f::r,off,.pair b c=>lN P f off b&&g b f.type&&eqF P g r (off+b.cells) c
 |_,_,_=>false
def eqT (P:Program):Nat->Ty->TypeId->Bool
 |0,_,_=>false
 |n+1,a,t=>match a with
  |.int k=>(match P.underlying t with|some (.int k')=>decide (k'=k)|_=>false)
  |.bool=>(match P.underlying t with|some .bool=>true|_=>false)
  |.str=>(match P.underlying t with|some .string=>true|_=>false)
  |.pair b c=>(match P.underlying t with|some (.struct fs)=>!P.stoodInHeld t&&eqF P (eqT P n) fs.toList 0 (.pair b c)|_=>false)
  |_=>false
theorem zx:∀ (b:Ty),b.isAgg=false->b.cells=1
 |.int _,_=>rfl
 |.bool,_=>rfl
 |.str,_=>rfl
 |.list _ _ _,_=>rfl
 |.hdr,_=>rfl
 |.unit,h=>by cases h
 |.pair _ _,h=>by cases h
theorem mD {f:Field}{off:Nat}{b:Ty}(h:lN P f off b=true){xs p c s:List Value}(M:xs=p++c++s)(J:p.length=off)(H:c.length=b.cells)(w:World) :
  ∃ v,(part f.type xs.toArray f.offset).run P w=.ok v w/\dg b.isAgg v c:=by
 unfold lN at h;simp only[BF]at h;obtain⟨⟨⟨_,y⟩,O⟩,R⟩:=h;have y:=BK y;have r:=AM (qR R) w;have z:=dw (fR O) w;have u:(xs.drop off).take b.cells=c:=by
  rw[M,CA,<- J,List.drop_left,<- H,List.take_left]
 cases I:b.isAgg with
 |true =>
  rw[I]at r;refine⟨.agg c.toArray,?_,rfl⟩;have e:xs.toArray.extract off (off+b.cells)=c.toArray:=by
   rw[List.extract_toArray,List.extract_eq_take_drop,Nat.add_sub_cancel_left,u]
  simp only[part,CR,r,CL,if_true,z,C0,y,e]
 |false =>
  rw[I]at r;have X:=zx b I;rw[X]at H
  match c,H with
  |[v],_ =>
   refine⟨v,?_,rfl⟩;have e:xs.toArray[off]?=some v:=by
    simp only[List.getElem?_toArray];rw[M,CA,B5 (by omega)];simp[J]
   simp only[part,CR,r,CL,CW,if_false,y,e,C0]
def zR (P:Program)(d:Nat)(b:Ty)(t:TypeId):Prop:=∀ (w:World) (G:Nat->Prop) (x y:b.den) (H r:Value) (z u:List Value),dg b.isAgg H z->Rd w G b x z->dg b.isAgg r u->Rd w G b y u ->
 (Op.equalIn d t H r).run P w=.ok (b.eqv x y) w
theorem yh {d:Nat}{g:Ty->TypeId->Bool}(hg:∀ b t,g b t=true->zR P d b t):∀ (fs:List Field) (off:Nat) (b:Ty),eqF P g fs off b=true->∀ (w:World) (G:Nat->Prop) (x y:b.den) (r J z R:List Value),
  r.length=off->z.length=off->Rd w G b x J->Rd w G b y R->(Op.eqFields d (r++J).toArray (z++R).toArray fs).run P w=.ok (b.eqv x y) w
 |[],_,_,h=>by simp[eqF]at h
 |[f],off,b,h=>by
  intro w G x y r J z R H u hx hy;simp only[eqF,BF]at h;obtain⟨v1,h1,h2⟩:=mD h.1 (xs:=r++J) (p:=r) (c:=J) (s:=[]) (by simp) H hx.len w;obtain⟨v2,h3,h4⟩:=mD h.1 (xs:=z++R) (p:=z) (c:=R) (s:=[]) (by simp) u hy.len w;have h5:=hg b f.type h.2 w G x y v1 v2 J R h2 hx h4 hy;have hn:f.name≠ "_" := by
   have:=h.1;unfold lN at this;simp only[BF]at this;simpa using this.1.1.1
  simp only[Op.eqFields,if_pos hn,CR,h1,h3,h5,CL];cases b.eqv x y <;> simp
 |f::X::fs,off,.pair b c,h=>by
  intro w G x y r J z R H u hx hy;simp only[eqF,BF]at h;obtain⟨⟨Y,a0⟩,M⟩:=h;obtain⟨Z,c2,rfl,I,a2⟩:=hx;obtain⟨d1,d2,rfl,O,a1⟩:=hy;obtain⟨v1,h1,h2⟩:=mD Y (xs:=r++(Z++c2)) (p:=r) (c:=Z) (s:=c2) (by simp) H I.len w;obtain⟨v2,h3,h4⟩:=mD Y (xs:=z++(d1++d2)) (p:=z) (c:=d1) (s:=d2) (by simp) u O.len w;have h5:=hg b f.type a0 w G x.1 y.1 v1 v2 Z d1 h2 I h4 O;have h6:=yh hg (X::fs) (off+b.cells) c M w G x.2 y.2 (r++Z) c2 (z++d1) d2 (by simp[H,I.len]) (by simp[u,O.len]) a2 a1;rw[CA,CA]at h6;have hn:f.name≠ "_" := by
   unfold lN at Y;simp only[BF]at Y;simpa using Y.1.1.1
  rw[Op.eqFields];simp only[if_pos hn,CR,h1,h3,h5,CL];show _=Result.ok (b.eqv x.1 y.1&&c.eqv x.2 y.2) w;cases b.eqv x.1 y.1 with
  |false=>simp
  |true=>simpa using h6
 |f::X::fs,off,.int _,h=>by simp[eqF]at h
 |f::X::fs,off,.bool,h=>by simp[eqF]at h
 |f::X::fs,off,.str,h=>by simp[eqF]at h
 |f::X::fs,off,.unit,h=>by simp[eqF]at h
 |f::X::fs,off,.list _ _ _,h=>by simp[eqF]at h
 |f::X::fs,off,.hdr,h=>by simp[eqF]at h
theorem rR (x y:ByteArray):(x==y)=decide (x=y):=by
 rw[beq_toListBytes];by_cases h:x=y
 ·subst h;simp
 ·rw[decide_eq_false h];cases r:(x.toList==y.toList) with
  |false=>rfl
  |true =>
   exfalso;apply h;have:=eq_of_beq r;rw[Ct,Ct]at this;apply ByteArray.ext;exact Array.ext' this
theorem yi:∀ (n:Nat) (a:Ty) (t:TypeId),eqT P n a t=true->∀ d,n<=d->zR P d a t
 |0,_,_,h=>by simp[eqT]at h
 |n+1,a,t,h=>by
  intro d hd;obtain⟨d,rfl⟩:∃ d',d=d'+1:=⟨d-1,by omega⟩;intro w G x y R O I M u z r H;cases a with
  |int k =>
   simp only[eqT]at h;split at h
   ·rename_i Z J;have hk:=of_decide_eq_true h;subst hk;have z:I=[.int Z x]:=z;have H:M=[.int Z y]:=H;have u:I=[R]:=u;have r:M=[O]:=r;rw[z]at u;rw[H]at r;simp at u r;subst u;subst r;simp[Op.equalIn,run_underlying J,Ty.eqv];rfl
   ·cases h
  |bool =>
   simp only[eqT]at h;split at h
   ·rename_i J;have z:I=[.bool x]:=z;have H:M=[.bool y]:=H;have u:I=[R]:=u;have r:M=[O]:=r;rw[z]at u;rw[H]at r;simp at u r;subst u;subst r;simp[Op.equalIn,run_underlying J,Ty.eqv]
   ·cases h
  |str =>
   simp only[eqT]at h;split at h
   ·rename_i J;have z:I=[.string x]:=z;have H:M=[.string y]:=H;have u:I=[R]:=u;have r:M=[O]:=r;rw[z]at u;rw[H]at r;simp at u r;subst u;subst r;have:=rR x y;simp[Op.equalIn,run_underlying J,Ty.eqv,this]
   ·cases h
  |pair b c =>
   simp only[eqT]at h;split at h
   ·rename_i X J;simp only[BF,CH]at h;have Y:P.fieldsOf t=X:=by simp[Program.fieldsOf,J]
    have u:R=.agg I.toArray:=u;have r:O=.agg M.toArray:=r;subst u;subst r;rw[run_equalIn_struct (P:=P) w d t _ _ (by rw[Y];exact J) h.1,Y];have:=yh (P:=P) (λb t hb=>yi n b t hb d (by omega)) X.toList 0 (.pair b c) h.2 w G x y [] I [] M rfl rfl z H;simpa using this
   ·cases h
  |unit=>simp[eqT]at h
  |hdr=>simp[eqT]at h
  |list m E e=>simp[eqT]at h
theorem AN {t:TypeId}{a:Ty}(h:eqT P 64 a t=true)(u:a.isAgg=true):EqAt P t a:=by
 intro _ w G x y z r H I;have:=yi 64 a t h Op.maxDepth (by decide) w G x y (.agg z.toArray) (.agg r.toArray) z r (by rw[u];rfl) H (by rw[u];rfl) I;exact this
def wK:Value->Value->Bool
 |.int k n,.int u z=>decide (k=u)&&decide (n=z)
 |.bool b,.bool y=>b==y
 |.string s,.string r=>decide (s.toList=r.toList)
 |.slice none 0 0,.slice none 0 0=>true
 |.pointer none,.pointer none=>true
 |.nilFunc,.nilFunc=>true
 |_,_=>false
def kZ:List Value->List Value->Bool
 |[],[]=>true
 |v::r,u::y=>wK v u&&kZ r y
 |_,_=>false
theorem zy {v u:Value}(h:wK v u=true):v=u:=by
 unfold wK at h;split at h
 ·simp only[BF,decide_eq_true_eq]at h;rw[h.1,h.2]
 ·rw[eq_of_beq h]
 ·rename_i s r;have:s=r:=by
   have y:=rR s r;rw[beq_toListBytes,of_decide_eq_true h]at y;simpa using y.symm
  rw[this]
 ·rfl
 ·rfl
 ·rfl
 ·cases h
theorem mE:∀ {r us:List Value},kZ r us=true->r=us
 |[],[],_=>rfl
 |v::r,u::us,h=>by
  simp only[kZ,BF]at h;rw[zy h.1,mE h.2]
 |[],_::_,h=>by simp[kZ]at h
 |_::_,[],h=>by simp[kZ]at h
def zB (P:Program)(t:TypeId)(agg:Bool)(cs:List Value):Bool :=
 match P.info? t with
 |some i=>match i.zero with
  |some (.agg r)=>agg&&kZ r.toList cs
  |some v=>!agg&&kZ [v] cs
  |none=>false
 |none=>false
theorem yj {t:TypeId}{cs:List Value}(h:zB P t true cs=true):d8 P t (.agg cs.toArray):=by
 unfold zB at h;unfold d8;split at h
 ·rename_i i r;rw[r];split at h
  ·rename_i y u;simp only[Cv]at h;rw[B6,u,<- mE h,Array.toArray_toList]
  ·cases h
  ·cases h
 ·cases h
theorem lO {t:TypeId}{v:Value}(h:zB P t false [v]=true):d8 P t v:=by
 unfold zB at h;unfold d8;split at h
 ·rename_i i r;rw[r];split at h
  ·cases h
  ·rename_i u _ y;simp only[DD,Cv]at h;have:=mE h;simp only[Cj,and_true]at this;rw[B6,y,this]
  ·cases h
 ·cases h
def kp (P:Program)(n:Nat):List Field->List (Nat×Nat×Bool)->Bool
 |[],[]=>true
 |f::u,(off,k,agg)::r=>BM f.offset off&&szB P f.type k&&ua P f.type agg&&Ci 0 k&&Cp (off+k) n&&(agg||BM k 1)&&kp P n u r
 |_,_=>false
def isU8:Ty->Bool
 |.int .u8=>true
 |_=>false
def u8B (P:Program)(E:TypeId):Bool :=
 match P.underlying E with
 |some (.int .u8)=>true
 |_=>false
def tiB (P:Program)(t:TypeId):TI->Bool
 |.int k=>(match P.underlying t with|some (.int k')=>decide (k'=k)|_=>false)&&szB P t 1&&zB P t false [.int k 0]
 |.bool=>(match P.underlying t with|some .bool=>true|_=>false)&&szB P t 1&&zB P t false [.bool false]
 |.str=>(match P.underlying t with|some .string=>true|_=>false)&&szB P t 1&&zB P t false [.string ByteArray.empty]
 |.slice E e r=>(match P.underlying t with|some (.slice E')=>BM E' E|_=>false)&&szB P t 1&&zB P t false [.slice none 0 0]&&Ci 0 e.cells&&Ci 0 r &&
  szB P E e.cells&&(match P.info? E with | some i=>BM i.bytes r&&(match i.zero with | some z=>kZ z.cells.toList (zeroCells e) | none=>false) | none=>false)&&(!isU8 e||u8B P E)
 |.arr e n=>(match P.underlying t with|some (.array m E)=>BM m n&&szB P E e.cells&&ua P E e.isAgg|_=>false)&&Ci 0 e.cells&&szB P t (n*e.cells)&&zB P t true (List.replicate n (zeroCells e)).flatten
 |.struct a u=>(match P.underlying t with | some (.struct y)=>kp P a.cells y.toList u | _=>false)&&szB P t a.cells&&zB P t true (zeroCells a)&&a.isAgg&&(!a.flat||eqT P 64 a t)&&!P.eqGuardType P.depth t
 |.ptr=>(match P.underlying t with|some (.pointer _)=>true|_=>false)&&szB P t 1&&zB P t false [.pointer none]
 |.fn=>(match P.underlying t with|some (.func _ _ _)=>true|_=>false)&&szB P t 1&&zB P t false [.nilFunc]
 |.none=>true
theorem qk {n:Nat}:∀ {fs:List Field} {xs:List (Nat×Nat×Bool)},kp P n fs xs=true ->
  fs.mapM (λf=>(P.info? f.type).map λi=>(f.offset,i.size))=some (xs.map λx=>(x.1,x.2.1)) /\
  ∀ (i off k:Nat) (agg:Bool),xs[i]?=some (off,k,agg)->(agg=false->k=1)/\∃ f:Field,fs[i]?=some f/\f.offset=off/\0<k/\off+k<=n/\bQ P f.type k /\
   (P.underlying f.type).map (λd=>match d with|.struct _|.array _ _=>true|_=>false)=some agg
 |[],[],_=>⟨rfl,λi off k agg h=>by simp at h⟩
 |[],_::_,h=>by simp[kp]at h
 |_::_,[],h=>by simp[kp]at h
 |f::fs,(off,k,agg)::xs,h=>by
  simp only[kp,BF,CT]at h;obtain⟨⟨⟨⟨⟨⟨H,R⟩,M⟩,Z⟩,h5⟩,u⟩,h7⟩:=h;have H:=BK H;have r:=fR R;obtain⟨Y,O⟩:=qk h7;constructor
  ·unfold bQ at r;cases J:P.info? f.type with
   |none=>rw[J]at r;cases r
   |some i =>
    rw[J]at r;simp only[B6,BD]at r;simp[Co,J,Y,r,H]
  ·intro i z k' y I;cases i with
   |zero =>
    simp at I;obtain⟨rfl,rfl,rfl⟩:=I;refine⟨λha=>?_,f,rfl,H,by simpa[CP]using Z,B9 h5,r,qR M⟩;rcases u with u|u
    ·rw[ha]at u;cases u
    ·exact BK u
   |succ i =>
    obtain⟨q1,f',q2,X⟩:=O i z k' y (by simpa using I);exact⟨q1,f',by simpa using q2,X⟩
theorem BA {t:TypeId}{i:TI}(h:tiB P t i=true):oL P t i:=by
 cases i with
 |none=>trivial
 |int k =>
  simp only[tiB,BF]at h;obtain⟨⟨r,I⟩,H⟩:=h;split at r
  ·rename_i k' u;rw[of_decide_eq_true r]at u;exact⟨u,fR I,lO H⟩
  ·cases r
 |bool =>
  simp only[tiB,BF]at h;obtain⟨⟨r,I⟩,H⟩:=h;split at r
  ·rename_i u;exact⟨u,fR I,lO H⟩
  ·cases r
 |str =>
  simp only[tiB,BF]at h;obtain⟨⟨r,I⟩,H⟩:=h;split at r
  ·rename_i u;exact⟨u,fR I,lO H⟩
  ·cases r
 |ptr =>
  simp only[tiB,BF]at h;obtain⟨⟨r,I⟩,H⟩:=h;split at r
  ·rename_i e u;exact⟨⟨e,u⟩,fR I,lO H⟩
  ·cases r
 |fn =>
  simp only[tiB,BF]at h;obtain⟨⟨r,I⟩,H⟩:=h;split at r
  ·rename_i x y z u;exact⟨⟨x,y,z,u⟩,fR I,lO H⟩
  ·cases r
 |slice E e a0 =>
  simp only[tiB,BF]at h;obtain⟨⟨⟨⟨⟨⟨⟨r,I⟩,H⟩,X⟩,M⟩,Z⟩,R⟩,J⟩:=h;have a1:e=.int .u8->P.underlying E=some (.int .u8):=by
   intro he;subst he;have J:u8B P E=true:=by simpa[isU8]using J
   unfold u8B at J;split at J
   ·rename_i hq;exact hq
   ·cases J
  split at r
  ·rename_i E' u;rw[BK r]at u;split at R
   ·rename_i ti Y;simp only[BF]at R;obtain⟨h8,h9⟩:=R;split at h9
    ·rename_i z hz;have O:=fR Z;unfold bQ at O;rw[Y]at O;simp only[B6,BD]at O;exact⟨u,fR I,lO H,by simpa[CP]using X,⟨by simpa[CP]using M,a1⟩,ti,z,Y,O,BK h8,hz,mE h9⟩
    ·cases h9
   ·cases R
  ·cases r
 |arr e n =>
  simp only[tiB,BF]at h;obtain⟨⟨⟨r,I⟩,H⟩,X⟩:=h;split at r
  ·rename_i m E u;simp only[BF]at r;obtain⟨⟨M,Z⟩,R⟩:=r;rw[BK M]at u;exact⟨⟨E,u,fR Z,qR R⟩,by simpa[CP]using I,fR H,yj X⟩
  ·cases r
 |struct a a2 =>
  simp only[tiB,BF,CT,CH]at h;obtain⟨⟨⟨⟨⟨r,I⟩,H⟩,X⟩,M⟩,Z⟩:=h;split at r
  ·rename_i fs u;obtain⟨R,h8⟩:=qk r;refine⟨⟨fs,u,R,λi off n agg hx=>?_⟩,fR I,yj H,?_,Z⟩
   ·obtain⟨q1,f,q2,q3⟩:=h8 i off n agg hx;exact⟨q1,f,by simpa using q2,q3⟩
   ·intro hf;rcases M with M|M
    ·rw[hf]at M;cases M
    ·exact AN M X hf
  ·cases r
def tlB (P:Program):List (TypeId×TI)->Bool
 |[]=>true
 |x::l=>tiB P x.1 x.2&&tlB P l
theorem jc:∀ {l:List (TypeId×TI)},tlB P l=true->TOk P (gB l):=by
 intro l h;refine sE ?_;induction l with
 |nil=>simp
 |cons x l u =>
  simp only[tlB,BF]at h;intro y r;rcases BR.1 r with rfl|r
  ·exact BA h.1
  ·exact u h.2 y r
end
section
variable {P:Program} {T:TypeId->TI}
theorem k6 (hT:TOk P T)(M:P.follows .mixedOrders=true){f:FuncId}{fn:Func}(hf:P.funcs[f]?=some fn)(hn:(fn.name== "runtime.NumGoroutine")=false) {E:TypeId} {e:Ty} {rs:List RK} {r:Bool}
  {X:ab [PK.rd (.list false E e)]->Option (ai rs×ah [PK.rd (.list false E e)])} {R0 A B C:Code} {rid:Nat} {o0 o1:Oper} {d0 q t t':Nat} {x0:Operand} {L:List (Nat×List (Nat×List Coe))} {K:Nat}
  (hb:fn.body=some (.seq R0 (.seq (.seq (.region rid #[o0,o1] false) (.cond (.tmp q) A B)) C))) (bn:o0.guard=none) (dc:o0.op=.move x0) (c0:o1.op=.binOp .eql t (.tmp d0) (.const (.slice none 0 0)) t') (cb:o1.guard=none) (b1:o1.dst=some q)
  {E':TypeId} (ht:P.underlying t=some (.slice E'))
  (a4:(dS fn.ntmps [] (.seq R0 (.seq (.seq (.region rid #[o0,o1] false) (.cond (.tmp q) A B)) C))&&Cp 1 fn.ntmps&&Cp fn.ntmps GH&&qo rs&&dq L [] (.seq R0 (.seq (.seq (.region rid #[o0,o1] false) (.cond (.tmp q) A B)) C)))=true)
  {S1:ab [PK.rd (.list false E e)]->St}
  (b3:∀ x,evK [] T L K R0 (av (c8 0 [PK.rd (.list false E e)] x)) (oK (λs _=>act [] T o0 s (λU=>some (ac U s))) (λ_ _=>none))=some (S1 x))
  (Y:∀ x,one (S1 x) (.tmp d0)=.ro true E e x.1)
  (hF:∀ x,evK [] T L K (.seq (.cond (.tmp q) A B) C) (ac (cg (S1 x) [] q .one [.bool false]) (S1 x)) (c5 T [PK.rd (.list false E e)] rs r fn.results.toList)=X x)
  (c3:∀ x y,x.1=[]->X x=some y->evK [] T L K (.seq (.cond (.tmp q) A B) C) (ac (cg (S1 x) [] q .one [.bool true]) (S1 x)) (c5 T [PK.rd (.list false E e)] rs r fn.results.toList)=some y) :
  bP P ⟨f,[PK.rd (.list false E e)],rs,r,X⟩:=by
 refine⟨d6 hf hn hb,λw ro x vs u y Z d2 cc hy=>?_⟩;simp only[BF]at a4;obtain⟨⟨⟨⟨h1,h2⟩,h3⟩,h4⟩,h5⟩:=a4;have h2:=B9 h2;have h3:=B9 h3;have hV:ax (ge w ro [PK.rd (.list false E e)] vs u fn.ntmps):=⟨λk hk=>d2 k hk,h3⟩;have ba:=vw (P:=P) (ro:=ro) Z cc h2 h3;have hnoΓ:∀ c∈([]:List Ctr),bP P c:=by simp
 have b2:∀ z∈(ge w ro [PK.rd (.list false E e)] vs u fn.ntmps).fixb,z.1∈([]:List Nat):=λz hz=>ki (ps:=[PK.rd (.list false E e)]) hz
 have a0:∀ z∈(ge w ro [PK.rd (.list false E e)] vs u fn.ntmps).fixt,z.1∈([]:List Nat):=λz hz=>kh (ps:=[PK.rd (.list false E e)]) hz
 simp only[dS,BF]at h1;simp only[dq,BF]at h5;obtain⟨d3,⟨b5,d1⟩,cw⟩:=h1;obtain⟨cp,⟨_,c2⟩,c1⟩:=h5;refine calls_of_wp hf hb ?_;rw[C3];generalize cx:bodyPost P fn (tD ⟨f,[PK.rd (.list false E e)],rs,r,X⟩ w ro vs u y)=Q;have hQ:∀ ex s1,c5 T [PK.rd (.list false E e)] rs r fn.results.toList ex s1=some y->∀ a H,Rel P (ge w ro [PK.rd (.list false E e)] vs u fn.ntmps) s1 a H->Q (exOf ex) a H:=by
  intro ex s1 bb a' H J;obtain⟨c4,v,R,a9⟩:=yg (c:=⟨f,[PK.rd (.list false E e)],rs,r,X⟩) hT h4 hV Z h2 bb J;have cy:a'.defers=[]:=by obtain⟨W,J⟩:=J;exact J.df
  subst cx;rcases c4 with rfl|rfl <;> exact⟨cy,v,R,a9⟩
 have a6:∀ (b:Bool),evK [] T L K (.seq (.cond (.tmp q) A B) C) (ac (cg (S1 x) [] q .one [.bool b]) (S1 x)) (c5 T [PK.rd (.list false E e)] rs r fn.results.toList)=some y ->
   ∀ a H,Rel P (ge w ro [PK.rd (.list false E e)] vs u fn.ntmps) (ac (cg (S1 x) [] q .one [.bool b]) (S1 x)) a H->(Code.cond (.tmp q) A B).wp P (Exit.then (C.wp P Q) Q) a H:=by
  intro b b0 a H J;refine sq hV hT hnoΓ M b2 (nt:=fn.ntmps) (fix:=[]) rfl a0 (.cond (.tmp q) A B) (by simp only[dS,BF];exact d1) (by simp only[dq,BF];exact c2) _ _ y _ b0 (λex s1 I a H J=>?_) a H J;cases ex with
  |normal=>exact sq hV hT hnoΓ M b2 (nt:=fn.ntmps) (fix:=[]) rfl a0 C cw c1 s1 _ y Q I hQ a H J
  |exit bl=>exact hQ (.exit bl) s1 I a H J
  |ret=>exact hQ .ret s1 I a H J
 have a5:∀ (i:Nat) (o:Oper),(#[o0,o1]:Array Oper)[i]?=some o->lC fn.ntmps [] #[o0,o1] o=true:=λi o hi=>by
  simp only[B3]at b5;exact b5 o (by simpa using Cl hi)
 refine wp_seq (sq hV hT hnoΓ M b2 (nt:=fn.ntmps) (fix:=[]) rfl a0 R0 d3 cp _ _ (S1 x) _ (b3 x) (λex s0 I a H J=>?_) _ _ ba);cases ex with
 |exit bl=>cases I
 |ret=>cases I
 |normal =>
  have I:act [] T o0 s0 (λU=>some (ac U s0))=some (S1 x):=I;rw[tK]at I;obtain⟨U,hU,I⟩:=CB.1 I;simp only[BD]at I;refine wp_seq (wp_seq (wp_region ?_));have a2:DC (#[o0,o1]:Array Oper).size=[0,1]:=rfl;rw[a2,wpOps_cons];refine wH hV hT hnoΓ (ops:=#[o0,o1]) (i:=0) (o:=o0) rfl (mA rfl a0 (a5 0 o0 rfl)) (λj dd hg=>by rw[bn]at hg;cases hg) (U:=U) (by unfold mw;rw[bn];exact hU) J (λa1 w1 O=>?_);rw[I]at O;rw[wpOps_cons];obtain⟨W1,O⟩:=O;have a3:bN (ge w ro [PK.rd (.list false E e)] vs u fn.ntmps) o1:=mA rfl a0 (a5 1 o1 rfl);obtain⟨h7,_,_,_,_⟩:=bt O (.tmp d0) (by rw[Y x];simp);rw[Y x]at h7;obtain⟨A',bx,hv,_,cu⟩:=h7;have hv:a1.eval (.tmp d0)=.slice A' x.1.length bx:=by simpa using hv
  have b4:A'=none->x.1=[]:=λhA=>by
   cases hx:x.1 with
   |nil=>rfl
   |cons y ys =>
    obtain⟨g,o,b9,_⟩:=cu (by rw[hx];simp);rw[hA]at b9;cases b9
  have b0:evK [] T L K (.seq (.cond (.tmp q) A B) C) (ac (cg (S1 x) [] q .one [.bool A'.isNone]) (S1 x)) (c5 T [PK.rd (.list false E e)] rs r fn.results.toList)=some y:=by
   cases hA:A' with
   |none=>exact c3 x y (b4 hA) hy
   |some ad=>exact (hF x).trans hy
  have R:(execOp a1.eval o1).run P w1=.ok (.value (.bool A'.isNone)) w1:=by
   have:=Lib.run_eql_slice_nil (P:=P) w1 t E' A' x.1.length bx 0 0 ht;have hc:a1.eval (.const (.slice none 0 0))=.slice none 0 0:=rfl;simp[execOp,c0,hv,hc,eqGuard,this]
  unfold wpOp;have hi:(#[o0,o1]:Array Oper)[1]?=some o1:=rfl;simp only[hi];have hw:Region.wanted o1 (yielded #[o0,o1] a1.tmps)=true:=by simp[Region.wanted,cb]
  rw[if_pos hw];refine .inl (dZ R ?_);rw[b1];show Exit.then _ _ _ _ _;exact a6 _ b0 _ _ (O.putLs hV q (a3 q b1).1 (a3 q b1).2 _ .one [.bool A'.isNone] (.bool A'.isNone) [.bool A'.isNone] (CM _) rfl ⟨⟨rfl,id,rfl⟩,trivial⟩)
end
open Go.ChangeShapes Go.WideShapes
section
variable {H:Type} {enc:TypeId×Value->H} {P:Program}
theorem mH (M:laidOutB P=true){W W':World}{J:Nat->Bool}:∀ {y:List TypeId} {z:List Value} {ds:List (DataW H)} {ps:List MemPlace},(∀ t∈y,P.readableRec t=true/\t<P.types.size) ->
  DataW.TrodAll enc P W 0 (λ_=>true) true y z ds ps->(∀ x∈ps,W.sameAt W' x)->(∀ x∈ps,J x.block=true)->DataW.TrodAll enc P W' 0 J true y z ds ps
 |[],[],[],_,_,h,_,_=>h
 |[],[],_::_,_,_,h,_,_=>h.elim
 |[],_::_,_,_,_,h,_,_=>h.elim
 |_::_,[],_,_,_,h,_,_=>h.elim
 |_::_,_::_,[],_,_,h,_,_=>h.elim
 |t::y,v::z,d::ds,ps,I,⟨p,q,Z,R,e⟩,O,u=>by
  subst e;refine⟨p,q,WideElems.Trod_stays M (I t (BJ ..)).1 (I t (BJ ..)).2 Z (λx r=>O x (BG _ r)) (λx r=>u x (BG _ r)),
   mH M (λX Y=>I X (BI _ Y)) R (λx r=>O x (BH _ r)) (λx r=>u x (BH _ r)),rfl⟩
theorem r9 (hl:laidOutB P=true){f:Func}{s:ChangeSpec}{I O z a0:Bool}{W W':World}{y:Array Value}{ds gs:List (DataW H)}{r:List MemPlace}
  (hW:DataW.Whole enc P f.params.toList s.vars I W y.toList ds gs r) (J:s.vars=[]) (hb:Below W.heap.size W W') (a1:∀ t∈f.params.toList,P.readableRec t=true/\t<P.types.size)
  {tb:TypeId} (Y:f.resultTypes=#[tb]) (u:P.underlying tb=some .bool) (a2:(s.fn H (ds++gs)).results=[.lit (.bool true)]) (X:(s.fn H (ds++gs)).args=ds) (a4:(s.fn H (ds++gs)).vars=[]) :
  s.post enc P f I O z a0 W y (.bool true) W':=by
 have R:∀ p∈r,p.block<W.heap.size:=λp hp=>by simpa using hW.lt p hp
 have a5:=hW;obtain⟨p,q,hA,hV,e,hz,hn⟩:=hW;rw[J]at hV;obtain⟨rfl,rfl⟩:=trodVars_none hV;simp only[List.append_nil]at e;subst e;have Z:∀ x∈r,W.sameAt W' x:=λx hx=>hb.same (R x hx)
 have a9:(Value.bool true).resultList f.resultTypes.size=[.bool true]:=by rw[Y];rfl
 have hr:∀ (b:Nat) (M:Nat->Bool) (hd:Bool),DataW.TrodAll enc P W' b M hd f.resultTypes.toList ((Value.bool true).resultList f.resultTypes.size) (s.fn H (ds++[])).results []:=by
  intro b M hd;rw[a9,a2,Y];exact trodAll_mk1 (shut_bool u true)
 have ha:∀ (M:Nat->Bool),(∀ x∈r,M x.block=true)->DataW.TrodAll enc P W' 0 M true f.params.toList y.toList (s.fn H (ds++[])).args r:=by
  intro M a3;rw[X];exact mH hl a1 hA Z a3
 have hv:∀ (M:Nat->Bool),DataW.TrodVars enc P W' M s.vars (s.fn H (ds++[])).vars []:=by
  intro M;rw[J,a4];rfl
 refine⟨ds,[],r,[],r,[],a5,hr _ _ _,ha _ (λx hx=>by simpa using R x hx),hv _,hb.frame _,λ_=>⟨ok_one Y rfl (okWide_bool_mk u true),_,_,([]++r)++[],⟨[]++r,[],trodAll_append (ha _ (λ_ _=>rfl)) (hr _ _ _),hv _,rfl,?_,?_⟩,?_⟩⟩
 ·intro b off hp;have hp:MemPlace.cell b off∈r:=by simpa using hp
  rw[hb.frozen (p:=⟨b,off,none⟩) (R _ hp)];exact hz b off hp
 ·intro a6;have:=hn a6;simpa using this
 ·intro x hx _;simpa using hx
end
section
variable {H:Type} {enc:TypeId×Value->H} {P:Program} {w:World} {base:Nat} {spare:Nat->Bool} {held:Bool}
def shF (P:Program)(g:Ty->TypeId->Bool):List Field->Nat->Ty->Bool
 |[],_,_=>false
 |[f],off,b=>BM f.offset off&&BM (P.cellsOf f.type) b.cells&&g b f.type
 |f::r,off,.pair b c=>BM f.offset off&&BM (P.cellsOf f.type) b.cells&&g b f.type&&shF P g r (off+b.cells) c
 |_,_,_=>false
def shT (P:Program):Nat->Ty->TypeId->Bool
 |0,_,_=>false
 |n+1,a,t=>match a with
  |.int k=>(match P.underlying t with|some (.int k')=>decide (k'=k)|_=>false)
  |.bool=>(match P.underlying t with|some .bool=>true|_=>false)
  |.str=>(match P.underlying t with|some .string=>true|_=>false)
  |.pair b c=>(match P.underlying t with|some (.struct fs)=>shF P (shT P n) fs.toList 0 (.pair b c)&&BM (P.cellsOf t) (b.cells+c.cells)|_=>false)
  |.list _ E e=>(match P.underlying t with|some (.slice E')=>BM E' E&&BM (P.cellsOf E) e.cells&&Ci 0 e.cells&&shT P n e E|_=>false)
  |.unit=>false
  |.hdr=>false
def Sm:(a:Ty)->a.den->Prop
 |.int k,n=>(Lit.int k n).wf=true
 |.pair a b,x=>Sm a x.1/\Sm b x.2
 |.list _ _ e,r=>r.length<=maxLen/\∀ x∈(r:List e.den),Sm e x
 |.bool,_=>True
 |.str,s=>s.size<=maxLen
 |.unit,_=>True
 |.hdr,_=>True
theorem k7 {α β:Type}{f:α->Option β}:∀ (l:List α) (r:List β),l.mapM f=some r->r.length=l.length/\∀ (i:Nat) (x:α),l[i]?=some x->∃ y,f x=some y/\r[i]?=some y
 |[],r,h=>by
  simp at h;subst h;exact⟨rfl,λi x M=>by simp at M⟩
 |x::l,r,h=>by
  rw[Co]at h;cases I:f x with
  |none=>rw[I]at h;cases h
  |some y =>
   rw[I]at h;cases z:l.mapM f with
   |none=>rw[z]at h;cases h
   |some R =>
    rw[z]at h;cases h;obtain⟨X,O⟩:=k7 l R z;refine⟨by simp[X],λi u J=>?_⟩;cases i with
    |zero=>simp at J;subst J;exact⟨y,I,rfl⟩
    |succ i=>simpa using O i u (by simpa using J)
theorem rS {a:Addr}{n:Nat}{cs:List Value}(h:w.cells? base a n=some cs):base<=a.block/\cs.length=n/\∀ i u,cs[i]?=some u->w.cell? (a.add i)=some u:=by
 unfold World.cells? at h;split at h
 ·rename_i O;obtain⟨I,R⟩:=k7 _ _ h;refine⟨O,by simpa using I,λi u r=>?_⟩;have M:i<n:=by have:=(BN.1 r).1;rw[I]at this;simpa using this
  obtain⟨y,J,z⟩:=R i i (by simp[M]);rw[r]at z;cases z;exact J
 ·cases h
theorem oF {g:Ty->TypeId->Bool}{rd:TypeId->List Value->Option (DataW H×List MemPlace)}
  (Z:∀ b t,g b t=true->∀ cs d,rd t cs=some d->∃ x:b.den,Rd w (λk=>k<w.heap.size) b x cs/\Sm b x) :
  ∀ (fs:List Field) (off:Nat) (b:Ty),shF P g fs off b=true->∀ (cs:List Value),cs.length=off+b.cells ->
   (∀ f∈fs,∃ d,rd f.type ((cs.drop f.offset).take (P.cellsOf f.type))=some d)->∃ x:b.den,Rd w (λk=>k<w.heap.size) b x (cs.drop off)/\Sm b x
 |[],_,_,h=>by simp[shF]at h
 |[f],off,b,h=>by
  intro cs r M;simp only[shF,BF]at h;obtain⟨⟨I,u⟩,R⟩:=h;have I:=BK I;have u:=BK u;obtain⟨d,J⟩:=M f (BJ ..);rw[I,u,List.take_of_length_le (by simp;omega)]at J;exact Z b f.type R _ d J
 |f::z::fs,off,.pair b c,h=>by
  intro cs r M;simp only[shF,BF]at h;obtain⟨⟨⟨I,u⟩,R⟩,h4⟩:=h;have I:=BK I;have u:=BK u;have r:cs.length=off+(b.cells+c.cells):=r;obtain⟨d,J⟩:=M f (BJ ..);rw[I,u]at J;obtain⟨x,hx,Y⟩:=Z b f.type R _ d J;obtain⟨y,hy,X⟩:=oF Z (z::fs) (off+b.cells) c h4 cs (by omega) (λf0 O=>M f0 (BI _ O));refine⟨(x,y),⟨_,_,?_,hx,hy⟩,Y,X⟩;rw[<- Cm,List.take_append_drop]
 |f::z::fs,off,.int _,h=>by simp[shF]at h
 |f::z::fs,off,.bool,h=>by simp[shF]at h
 |f::z::fs,off,.str,h=>by simp[shF]at h
 |f::z::fs,off,.unit,h=>by simp[shF]at h
 |f::z::fs,off,.list _ _ _,h=>by simp[shF]at h
 |f::z::fs,off,.hdr,h=>by simp[shF]at h
theorem oG {β:Type}(Q:Nat->β->Prop):∀ (n:Nat),(∀ i,i<n->∃ x,Q i x)->∃ u:List β,u.length=n/\∀ i x,u[i]?=some x->Q i x
 |0,_=>⟨[],rfl,λi x h=>by simp at h⟩
 |n+1,h=>by
  obtain⟨u,I,O⟩:=oG Q n (λi M=>h i (by omega));obtain⟨x,J⟩:=h n (by omega);refine⟨u++[x],by simp[I],λi y r=>?_⟩;by_cases M:i<n
  ·rw[B7 (by omega)]at r;exact O i y r
  ·have z:i<(u++[x]).length:=(BN.1 r).1;have:i=n:=by simp at z;omega
   subst this;rw[B5 (by omega),I,Nat.sub_self]at r;simp at r;subst r;exact J
theorem qS:∀ (n:Nat) (a:Ty) (t:TypeId),shT P n a t=true->∀ (I:Nat) (cs:List Value) (d:DataW H×List MemPlace),DataW.trod enc P w base spare held I t cs=some d ->
    ∃ x:a.den,Rd w (λk=>k<w.heap.size) a x cs/\Sm a x
  |0,_,_,h=>by simp[shT]at h
  |n+1,a,t,h=>by
    intro I cs d r;cases I with
    |zero=>simp[DataW.trod]at r
    |succ I =>
      cases a with
      |int k =>
        simp only[shT]at h;split at h
        · rename_i k' O
          have hk:=of_decide_eq_true h;subst hk;simp only[DataW.trod,O]at r;split at r <;> first|(rename_i M;cases M;done)|skip
          all_goals first
            | (rename_i k1 k2 m J
               cases J;split at r
               · rename_i hw
                 obtain⟨rfl,hw⟩:=hw;exact⟨m,rfl,hw⟩
               · cases r)
            |cases r
        · cases h
      |bool =>
        simp only[shT]at h;split at h
        · rename_i O
          simp only[DataW.trod,O]at r;split at r <;> first|(rename_i M;cases M;done)|skip
          all_goals first
            |(rename_i b J;exact⟨b,rfl,trivial⟩)
            |cases r
        · cases h
      |str =>
        simp only[shT]at h;split at h
        · rename_i O
          simp only[DataW.trod,O]at r;split at r <;> first|(rename_i M;cases M;done)|skip
          all_goals first
            | (rename_i b J
               split at r
               · rename_i hb
                 exact⟨b,rfl,hb⟩
               · cases r)
            |cases r
        · cases h
      |unit=>simp[shT]at h
      |hdr=>simp[shT]at h
      |pair b c =>
        simp only[shT]at h;split at h
        · rename_i fs O
          simp only[BF]at h;obtain⟨h1,X⟩:=h;have X:=BK X;simp only[DataW.trod,O]at r;split at r
          · rename_i a2
            simp only[BL]at r;obtain⟨ys,b3,_⟩:=r;obtain⟨h3,h4⟩:=k7 _ _ b3;have:=oF (w:=w) (rd:=DataW.trod enc P w base spare held I) (λb t hb cs d r=>qS n b t hb I cs d r) fs.toList 0 (.pair b c) h1 cs (by rw[a2,X,CN];rfl) (λf hf=>by
              obtain⟨i,hi,e⟩:=Cu hf;obtain⟨y,h5,_⟩:=h4 i f (by rw[BU hi,e]);exact⟨y,h5⟩)
            simpa using this
          · cases r
        · cases h
      |list m E e =>
        simp only[shT]at h;split at h
        · rename_i E' O
          simp only[BF]at h;obtain⟨⟨⟨h1,X⟩,h3⟩,h4⟩:=h;have h1:=BK h1;subst h1;have X:=BK X;have h3:0<e.cells:=by simpa[CP]using h3
          simp only[DataW.trod,O]at r;split at r <;> first|(rename_i M;cases M;done)|skip
          all_goals first
            |cases r;done
            |skip
          · exact⟨[],Rd.nil w _ m _ e,C8 _,by simp⟩
          · rename_i E2 R a3 b9 J
            cases J;split at r
            · rename_i hc
              obtain⟨b5,ba,bn⟩:=hc;obtain⟨bl,a6,_⟩:=CB.1 r;obtain⟨h5,h6⟩:=k7 _ _ a6;have b2:∀ i,i<a3->∃ x:e.den,∃ c,w.cells? base (R.add (i*e.cells)) e.cells=some c/\Rd w (λk=>k<w.heap.size) e x c/\Sm e x:=by
                intro i hi;obtain⟨y,h7,_⟩:=h6 i i (by simp[hi]);obtain⟨c,h8,h9⟩:=CB.1 h7;rw[X]at h8;obtain⟨x,hx,b0⟩:=qS n e _ h4 I c y h9;exact⟨x,c,h8,hx,b0⟩
              obtain⟨xs,b1,Z⟩:=oG (λi (x:e.den)=>∃ c,w.cells? base (R.add (i*e.cells)) e.cells=some c/\Rd w (λk=>k<w.heap.size) e x c/\Sm e x) a3 b2;refine⟨xs,⟨some R,b9,by rw[b1],by omega,λhp=>?_⟩,by omega,λx hx=>?_⟩
              · have b4:0<xs.length:=hp
                obtain⟨c,a1,a4,_⟩:=Z 0 xs[0] (BU b4);obtain⟨_,bb,Y⟩:=rS a1;have h0:0<c.length:=by omega
                have z:=Y 0 c[0] (BU h0);have e0:(R.add (0*e.cells)).add 0=R:=by simp[Addr.add]
                rw[e0]at z;have a0:R.spot=none/\R.block<w.heap.size:=by
                  unfold World.cell? at z;split at z
                  · rename_i hh
                    split at z
                    · cases z
                    · rename_i hs
                      refine⟨by simpa using hs,(CY.1 hh).1⟩
                  · cases z
                obtain⟨g,o,sp⟩:=R;obtain⟨a5,a9⟩:=a0;simp only at a5 a9;subst a5;refine⟨g,o,rfl,a9,λj x hj=>?_⟩;obtain⟨c,a1,a4,_⟩:=Z j x hj;obtain⟨_,_,Y⟩:=rS a1;refine⟨c,a4,λi u hi=>?_⟩;have:=Y i u hi
                rwa [ff,ff]at this
              · obtain⟨j,hj,e1⟩:=Cu hx
                obtain⟨c,_,_,hs⟩:=Z j x (by rw[BU hj,e1]);exact hs
            · cases r
        · cases h
end
section
variable {H:Type} {enc:TypeId×Value->H} {P:Program} {w:World}
theorem zz {n:Nat}{a:Ty}{t:TypeId}(r:shT P (n+1) a t=true){v:Value}{d:DataW H}{p:List MemPlace}(M:DataW.Trod enc P w 0 (λ_=>true) true t v d p){base:Nat}(u:DF P w .any base t v) :
  ∃ x:a.den,(∃ I,dg a.isAgg v I/\Rd w (λk=>k<w.heap.size) a x I)/\Sm a x:=by
 obtain⟨z,M⟩:=M;obtain⟨x,X,J⟩:=qS (n+1) a t r z _ _ M;refine⟨x,⟨v.cells.toList,?_,X⟩,J⟩;cases a with
 |int k =>
  simp only[shT]at r;split at r
  ·rename_i Z y;obtain⟨n,rfl⟩:=okWide_int y u;rfl
  ·cases r
 |bool =>
  simp only[shT]at r;split at r
  ·rename_i y;obtain⟨n,rfl⟩:=okWide_bool y u;rfl
  ·cases r
 |str =>
  simp only[shT]at r;split at r
  ·rename_i y;obtain⟨n,rfl⟩:=okWide_string y u;rfl
  ·cases r
 |list m E e =>
  simp only[shT]at r;split at r
  ·rename_i E' y;obtain⟨A,R,O,rfl⟩:=okWide_slice y u;rfl
  ·cases r
 |unit=>simp[shT]at r
 |hdr=>simp[shT]at r
 |pair b c =>
  simp only[shT]at r;split at r
  ·rename_i Y y;obtain⟨I,rfl,_⟩:=okWide_struct y u;show Value.agg I=.agg (Value.agg I).cells.toList.toArray;simp[Value.cells]
  ·cases r
def Sms:(as:List Ty)->ab (as.map .rd)->Prop
 |[],_=>True
 |a::as,x=>Sm a x.1/\Sms as x.2
def ub (P:Program):List Ty->List TypeId->Bool
 |[],[]=>true
 |a::as,t::r=>shT P 64 a t&&ub P as r
 |_,_=>false
theorem rT {pr:Nat->Prop}:∀ (as:List Ty) (I:List TypeId) (u:List Value) (ds:List (DataW H)) (ps:List MemPlace),ub P as I=true->DataW.TrodAll enc P w 0 (λ_=>true) true I u ds ps ->
  (∃ r,∀ (j:Nat) (t:TypeId) (v:Value),I[j]?=some t->u[j]?=some v->DF P w .any r t v)->∃ x:ab (as.map .rd),db P w (λk=>k<w.heap.size) pr (as.map .rd) x u (as.map λ_=>[])/\Sms as x
 |[],[],[],[],_,_,_,_=>⟨(),⟨rfl,rfl⟩,trivial⟩
 |[],[],[],_::_,_,_,h,_=>h.elim
 |[],[],_::_,_,_,_,h,_=>h.elim
 |[],_::_,_,_,_,h,_,_=>by simp[ub]at h
 |_::_,[],_,_,_,h,_,_=>by simp[ub]at h
 |_::_,_::_,[],_,_,_,h,_=>h.elim
 |_::_,_::_,_::_,[],_,_,h,_=>h.elim
 |a::as,t::I,v::u,d::ds,ps,O,⟨p,q,h1,Y,_⟩,⟨r,z⟩=>by
  simp only[ub,BF]at O;obtain⟨x,hx,M⟩:=zz (n:=63) O.1 h1 (z 0 t v rfl rfl);obtain⟨y,hy,J⟩:=rT as I u ds q O.2 Y ⟨r,λj t' X R Z=>z (j+1) t' X (by simpa using R) (by simpa using Z)⟩;exact⟨(x,y),⟨v,u,[],_,rfl,rfl,⟨rfl,hx⟩,hy⟩,M,J⟩
theorem zA (tys:List Ty):(tys.map λ_=>([]:List Nat)).flatten=[]:=by
 induction tys with
 |nil=>rfl
 |cons a tys r=>simp
theorem yk {f:FuncId}{tys:List Ty}{y:Bool}{O:ab (tys.map PK.rd)->Option (ai [.v .bool]×ah (tys.map PK.rd))}(hs:bP P ⟨f,tys.map .rd,[.v .bool],y,O⟩){x:ab (tys.map .rd)}{X:List Value}{o:ah (tys.map .rd)}
  (hx:db P w (λk=>k<w.heap.size) (λk=>k<w.heap.size) (tys.map .rd) x X (tys.map λ_=>[])) (hd:O x=some ((true,()),o)):Calls P f X.toArray w (λe w'=>e=.returned (.bool true)/\Below w.heap.size w w'):=by
 have R:=zA tys;have:=hs.2 w (λk=>k<w.heap.size) x X _ _ (hx.mono (λ_ h=>h) (λk I=>⟨I,by rw[R];simp⟩)) (λk I=>⟨I,by rw[R];simp⟩) (by rw[R];exact Ca) hd;refine this.mono λe w' hp=>?_
 obtain⟨v,us,N,a4,a5,rfl,r,Z,a2,Y,a0,a1,_,_,M,_,_⟩:=hp;refine⟨?_,⟨a2,Y,a0,Z,λk I=>a1 k I (by rw[R];simp)⟩⟩;obtain⟨u,a6,b,a3,e1,e2,⟨cs,z,J⟩,e3,e4⟩:=M;subst e3;subst e1;have r:v=u:=r;subst r;have z:cs=[v]:=z;have J:cs=[.bool true]:=J.1;rw[z]at J;simp only[Cj,and_true]at J;rw[J]
end
end Go.Proofs.YtaegajachoklkaaGreatEv
