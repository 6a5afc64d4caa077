/- One operation looks at some slots alone. -/
import Derived.Test.YtadlacffdemoiaaGreatE3
import Derived.Laws.StructEq
import Derived.Lib.SliceRun
import Derived.ProofKit
set_option linter.unusedVariables false
set_option linter.unusedSimpArgs false
open Array renaming getElem?_eq_getElem->BM,getD_eq_getD_getElem?->BN,replicate->B8,all_eq_true_iff_forall_mem->CJ,getElem?_eq_some_iff->CS,getElem?_append_left->CT,getElem?_replicate->CZ,mem_of_getElem?->Ce,length_toList->Ck,mem_append->Cw
open Bool renaming and_eq_true->BC,not_eq_true'->CA,or_eq_true->CN,false_eq_true->CQ,and_false->CR,and_true->CY,true_and->Co,not_false->C6
open Classical renaming byContradiction->By
open Go.ByteArray renaming toList_eq->Cm
open Go.Result renaming andThen_ok->CE
open Go.Sem renaming run_bind->CK,run_pure->Ct
open Go.Value renaming okWide->C8
open List renaming mem_append->BB,mem_append_left->BD,mem_append_right->BE,mem_cons_of_mem->BF,mem_cons_self->BG,getElem?_eq_some_iff->BK,mem_map->BL,mem_cons->BO,getD_eq_getElem?_getD->BP,flatten_cons->BQ,getElem?_eq_getElem->BR,mem_flatMap->BT,count_append->BU,mem_singleton_self->BV,count_pos_iff->BW,all_eq_true->BX,map_cons->BY,getElem?_append_right->BZ,getElem?_append_left->Bx,append_assoc->B3,nil_append->B5,mem_singleton->B6,nodup_cons->B7,length_cons->CC,nodup_append->CD,mem_filter->CH,any_eq_true->CM,map_append->CO,count_cons->CP,nodup_nil->CU,count_eq_zero->CV,any_eq_false->CW,all_cons->CX,getElem?_cons_succ->Ca,getElem?_eq_none->Cd,drop_drop->Cf,mapM_cons->Ch,map_congr_left->Cj,countP_eq_zero->Cl,getElem_of_mem->Cn,set_cons_succ->Cp,find?_eq_none->Cr,getElem?_map->Cs,size_toArray->Cu,mem_toArray->Cv,countP_cons->Cx,foldl_cons->C3,range->C5,map_nil->C7
open List.cons renaming injEq->Cc
open Nat renaming eq_of_beq_eq_true->BH,beq->BJ,le_of_ble_eq_true->Bz,lt_succ_self->CF,zero_add->CG,blt_eq->CI,blt->Cb,le_refl->Cg,ble->Ci,lt_of_lt_of_le->Cq,zero_le->Cz,strongRecOn->C4
open Option renaming map_eq_some_iff->BI,map_some->Bw,bind_eq_some_iff->B4,bind_assoc->B9,bind_some->CB,bind_none->CL,getD_some->Cy
open Option.some renaming injEq->BA,inj->C0
open Prod.mk renaming injEq->BS
namespace Go.Proofs.YtadlacffdemoiaaGreatEv
open Go Go.RowKit
section
variable {P:Program} {V:Env} {Γ:List Ctr} {T:TypeId->TI} {st st':St} {o:Oper} {R:Type} {κ:Upd->Option R} {r:R}
theorem gA {α β:Type}(b:Bool)(x y:Option α)(f:α->Option β):(bif b then x else y).bind f=bif b then x.bind f else y.bind f:=by cases b <;> rfl
theorem wh {b:Option (Bool×Nat×Nat)}{U:Upd}:jM st b U κ=(jM st b U some).bind κ:=by
 unfold jM;split
 ·split
  ·simp only[B9];congr 1;funext y;split <;> rfl
  ·rfl
 ·rfl
theorem wj {d:Nat}{f:FuncId}{xs:List (aH×List Leaf)}:jl Γ st d f xs κ=(jl Γ st d f xs some).bind κ:=by
 unfold jl;cases lJ Γ f with
 |none=>rfl
 |some c =>
  simp only[gz,B9];congr 1;funext u;cases oD Γ (ac u.1 st) c.ps u.2.1 with
  |none=>rfl
  |some g =>
   simp only[gA,B9,CL];congr 2;funext y;exact wh
theorem mB {z:St}{H:Upd}{d:Nat}{E:TypeId}{e:Ty}{u:Nat}{p:Bool}{xs:List e.den}{ks:List (Nat×Nat)}{y:Leaf}:dV st z H d E e u p xs ks y κ=(dV st z H d E e u p xs ks y some).bind κ:=by
 unfold dV;split
 ·simp only[gA,CL,CB]
 ·rfl
theorem tA {z:Upd}{d:Nat}{E:TypeId}{e:Ty}{u:Nat}{x y:Leaf}:eo st z d E e u x y κ=(eo st z d E e u x y some).bind κ:=by
 unfold eo;split
 ·split
  ·rw[gA,<- mB];rfl
  ·rfl
 ·exact mB
 ·rfl
theorem tB {d:Nat}{E:TypeId}{e:Ty}{u:Nat}{x y:Leaf}:it st d E e u x y κ=(it st d E e u x y some).bind κ:=by
 unfold it;simp only[gZ,gA,B9,<- tA]
theorem nh {r j i off n:Nat}{p:Bool}{E:TypeId}{e:Ty}{xs:List e.den}{h:Option (Nat×Nat)}{ls:List Leaf}:gG st r j i off n p E e xs h ls κ=(gG st r j i off n p E e xs h ls some).bind κ:=by
 unfold gG;simp only[B9];congr 1;funext u;split
 ·rw[gA];congr 1;split
  ·rfl
  ·simp only[gA,CB,CL]
 ·rfl
theorem tC:act Γ T o st κ=(act Γ T o st some).bind κ:=by
 cases u:o.op <;> simp only[act,wrU,u] <;> (repeat' split) <;>
  (try simp only[gA,B9,CL,CB]) <;> (try rfl) <;> (try exact wj) <;> (try (rw[tB];done)) <;> (try (rw[nh];done)) <;> (try (rw[<- nh];done))
theorem bk {q:Nat}(h:st' q=st q):∀ (U:Upd),ac U st' q=ac U st q
 |[]=>h
 |(r,c)::U=>by simp only[ac,bk h U]
theorem dU {x:Operand}(h:∀ t,x=.tmp t->st' t=st t):au st' x=au st x:=by
 cases x with
 |tmp t=>simp only[au,h t rfl]
 |_=>rfl
theorem dH {x:Operand}(h:∀ t,x=.tmp t->st' t=st t):one st' x=one st x:=by
 unfold one;rw[dU h]
theorem k9:∀ (y u:List Leaf),aw (y++u)=aw y++aw u
 |[],_=>rfl
 |l::y,u=>by cases l <;> simp[aw,k9 y u]
theorem aK (l:Leaf)(ls:List Leaf):aw (l::ls)=aw [l]++aw ls:=k9 [l] ls
theorem fC:∀ (n:Nat) (ls:List Leaf) (q:Nat),q∈aw (ls.drop n)->q∈aw ls
 |0,_,_,h=>h
 |n+1,[],_,h=>h
 |n+1,l::ls,q,h=>by rw[aK];exact BE _ (fC n ls q h)
theorem rA:∀ (n:Nat) (ls:List Leaf) (q:Nat),q∈aw (ls.take n)->q∈aw ls
 |0,_,_,h=>by simp[aw]at h
 |n+1,[],_,h=>by simp[aw]at h
 |n+1,l::ls,q,h=>by
  rw[List.take_succ_cons,aK,BB]at h;rw[aK,BB];exact h.imp id (rA n ls q)
theorem qH:∀ {ls:List Leaf} {k:Nat} {l:Leaf},ls[k]?=some l->∀ q∈aw [l],q∈aw ls
 |[],_,_,h,_,_=>by simp at h
 |y::ls,0,l,h,q,u=>by simp at h;subst h;rw[aK];exact BD _ u
 |y::ls,k+1,l,h,q,u=>by rw[aK];exact BE _ (qH (by simpa using h) q u)
theorem jA {ks:List (Nat×Nat×Nat)}{ep:Nat}(h:∀ q∈EPO::ks.map (·.1),st' q=st q):br st' ks ep=br st ks ep:=by
 unfold br;rw[h EPO (BG ..)];congr 1;induction ks with
 |nil=>rfl
 |cons k ks y =>
  rw[CX,CX,y (λq u=>h q (by simp at u ⊢;rcases u with u|u;exact .inl u;exact .inr (.inr u))),h k.1 (by simp)]
theorem ip {p:Bool}{ks:List (Nat×Nat×Nat)}{ep:Nat}{u:Option (Nat×Nat×Nat)}{E:TypeId}{e:Ty}{xs:List e.den}:aw [.nal p ks ep u E e xs]=EPO::ks.map (·.1):=by simp[aw]
theorem u3 {p:Bool}{ks:List (Nat×Nat×Nat)}{ep:Nat}{a:Ty}{x:a.den}{off:Nat}:aw [.np p ks ep a x off]=EPO::ks.map (·.1):=by simp[aw]
theorem cl {l:Leaf}(h:∀ q∈aw [l],st' q=st q):aD st' l=aD st l:=by
 cases l with
 |al r j v=>simp only[aD,h r (by simp[aw])]
 |nal p y ep u E e z=>rw[ip]at h;simp only[aD,jA h]
 |_=>rfl
theorem jK:∀ (a:Ty) (ls:List Leaf) (p:Bool) (x:a.den) (u:List Leaf),aZ st a ls=some (p,x,u)->∃ J,ls=J++u
 |.int k,ls,p,x,u,h=>by
  simp only[aZ]at h;split at h
  ·split at h
   ·simp at h;exact⟨[_],by rw[<- h.2.2];rfl⟩
   ·cases h
  ·cases h
 |.bool,ls,p,x,u,h=>by
  simp only[aZ]at h;split at h
  ·simp at h;exact⟨[_],by rw[<- h.2.2];rfl⟩
  ·cases h
 |.str,ls,p,x,u,h=>by
  simp only[aZ]at h;split at h
  ·simp at h;exact⟨[_],by rw[<- h.2.2];rfl⟩
  ·cases h
 |.unit,ls,p,x,u,h=>by
  simp only[aZ,BA,BS]at h;exact⟨[],by rw[h.2.2];rfl⟩
 |.hdr,ls,p,x,u,h=>by
  simp only[aZ]at h;split at h
  ·split at h
   ·simp at h;exact⟨[_],by rw[<- h.2.2];rfl⟩
   ·cases h
  ·cases h
 |.pair a b,ls,p,x,u,h=>by
  simp only[aZ]at h;split at h
  ·rename_i q y H O;split at h
   ·rename_i M z I X;simp at h;obtain⟨J,e1⟩:=jK a ls q y H O;obtain⟨Z,Y⟩:=jK b H M z I X;exact⟨J++Z,by rw[e1,Y,h.2.2,B3]⟩
   ·cases h
  ·cases h
 |.list m E e,ls,p,x,u,h=>by
  simp only[aZ]at h;split at h
  ·split at h
   ·simp at h;exact⟨[_],by rw[<- h.2.2];rfl⟩
   ·cases h
  ·cases h
theorem gB:∀ (a:Ty) (ls:List Leaf),(∀ q∈aw ls,st' q=st q)->aZ st' a ls=aZ st a ls
 |.int k,ls,h=>rfl
 |.bool,ls,h=>rfl
 |.str,ls,h=>rfl
 |.unit,ls,h=>rfl
 |.hdr,ls,h=>by
  cases ls with
  |nil=>rfl
  |cons l ls =>
   simp only[aZ];rw[cl (l:=l) (λq z=>h q (by rw[aK];exact BD _ z))]
 |.pair a b,ls,h=>by
  simp only[aZ,gB a ls h];cases I:aZ st a ls with
  |none=>rfl
  |some x =>
   obtain⟨p,y,u⟩:=x;obtain⟨J,H⟩:=jK a ls p y u I;simp only;rw[gB b u (λq z=>h q (by rw[H,k9];exact BE _ z))]
 |.list m E e,ls,h=>by
  cases ls with
  |nil=>rfl
  |cons l ls =>
   simp only[aZ];rw[cl (l:=l) (λq z=>h q (by rw[aK];exact BD _ z))]
theorem eD {a:Ty}{ls:List Leaf}(h:∀ q∈aw ls,st' q=st q):cR st' a ls=cR st a ls:=by
 unfold cR;rw[gB a ls h]
theorem ni {e:Ty}:∀ (n:Nat) (ls:List Leaf),(∀ q∈aw ls,st' q=st q)->fy st' e n ls=fy st e n ls
 |0,_,_=>rfl
 |n+1,ls,h=>by
  simp only[fy,eD (ls:=ls.take e.cells) (λq u=>h q (rA _ _ q u)),ni n (ls.drop e.cells) (λq u=>h q (fC _ _ q u))]
theorem je:∀ {ls:List Leaf},(∀ q∈aw ls,st' q=st q)->bz st' ls=bz st ls
 |[],_=>rfl
 |l::ls,h=>by
  have y:=je (ls:=ls) (λq u=>h q (by rw[aK];exact BE _ u));cases l with
  |al r j v=>simp only[bz,y,cl (l:=.al r j v) (λq u=>h q (by rw[aK];exact BD _ u))]
  |nal p H ep z E e I=>simp only[bz,y,cl (l:=.nal p H ep z E e I) (λq u=>h q (by rw[aK];exact BD _ u))]
  |_=>simpa[bz]using y
theorem oX:∀ {ls:List Leaf},(∀ q∈aw ls,st' q=st q)->cd st' ls=cd st ls
 |[],_=>rfl
 |l::ls,h=>by
  have y:=oX (ls:=ls) (λq u=>h q (by rw[aK];exact BE _ u));cases l with
  |al r j v=>simp only[cd,y,cl (l:=.al r j v) (λq u=>h q (by rw[aK];exact BD _ u))]
  |_=>simpa[cd]using y
theorem qI:∀ {ls:List Leaf},(∀ q∈aw ls,st' q=st q)->dA st' ls=dA st ls
 |[],_=>rfl
 |l::ls,h=>by
  have u:=qI (ls:=ls) (λq z=>h q (by rw[aK];exact BE _ z));cases l with
  |nal p H ep y E e I =>
   cases y with
   |none=>simp only[dA,u,cl (l:=.nal p H ep none E e I) (λq z=>h q (by rw[aK];exact BD _ z))]
   |some x=>simpa[dA]using u
  |_=>simpa[dA]using u
theorem oY {ls:List Leaf}(h:∀ q∈aw ls,st' q=st q):dK st' ls=dK st ls:=by
 unfold dK;induction ls with
 |nil=>rfl
 |cons l ls y =>
  rw[BY,BY,y (λq u=>h q (by rw[aK];exact BE _ u))];unfold gb;rw[cl (λq u=>h q (by rw[aK];exact BD _ u))]
theorem eu:∀ {ls:List Leaf} {x:Nat×Nat},x∈bz st ls->x.1∈aw ls
 |[],_,h=>by simp[bz]at h
 |l::ls,x,h=>by
  cases l with
  |al r j v =>
   simp only[bz,BB]at h;rcases h with h|h
   ·split at h
    ·simp at h;subst h;simp[aw]
    ·simp at h
   ·rw[aK];exact BE _ (eu h)
  |nal p z ep u E e H =>
   simp only[bz,BB]at h;rcases h with h|h
   ·split at h
    ·obtain⟨k,y,rfl⟩:=BL.1 h;rw[aK,ip];exact BD _ (BF _ (BL.2 ⟨k,y,rfl⟩))
    ·simp at h
   ·rw[aK];exact BE _ (eu h)
  |_=>(simp only[bz]at h;rw[aK];exact BE _ (eu h))
theorem jf:∀ {ls:List Leaf} {x:Nat×Nat},x∈cd st ls->x.1∈aw ls
 |[],_,h=>by simp[cd]at h
 |l::ls,x,h=>by
  cases l with
  |al r j v =>
   simp only[cd,BB]at h;rcases h with h|h
   ·split at h
    ·simp at h;subst h;simp[aw]
    ·simp at h
   ·rw[aK];exact BE _ (jf h)
  |_=>(simp only[cd]at h;rw[aK];exact BE _ (jf h))
theorem hM:∀ {ls:List Leaf} {x:Nat×Nat},x∈dA st ls->x.1∈aw ls
 |[],_,h=>by simp[dA]at h
 |l::ls,x,h=>by
  cases l with
  |nal p H ep u E e I =>
   cases u with
   |none =>
    simp only[dA,BB]at h;rcases h with h|h
    ·split at h
     ·obtain⟨k,z,rfl⟩:=BL.1 h;rw[aK,ip];exact BD _ (BF _ (BL.2 ⟨k,z,rfl⟩))
     ·simp at h
    ·rw[aK];exact BE _ (hM h)
   |some y=>(simp only[dA]at h;rw[aK];exact BE _ (hM h))
  |_=>(simp only[dA]at h;rw[aK];exact BE _ (hM h))
theorem iq:∀ {ks:List (Nat×Nat)},(∀ x∈ks,st' x.1=st x.1)->aM st' ks=aM st ks
 |[],_=>rfl
 |(r,j)::ks,h=>by
  simp only[aM,iq (ks:=ks) (λx u=>h x (BF _ u)),bk (h (r,j) (BG ..))]
theorem j9:∀ {ks:List (Nat×Nat)},(∀ x∈ks,st' x.1=st x.1)->aE st' ks=aE st ks
 |[],_=>rfl
 |(r,j)::ks,h=>by
  simp only[aE,j9 (ks:=ks) (λx u=>h x (BF _ u)),bk (h (r,j) (BG ..))]
theorem tD {ls:List Leaf}(h:∀ q∈aw ls,st' q=st q):mvU st' ls=mvU st ls:=by
 unfold mvU;rw[qI h,oX h,j9 (λx u=>h _ (hM u))];simp only;rw[iq (λx u=>bk (h _ (jf u)) _)]
theorem qJ {ls:List Leaf}(h:∀ q∈aw ls,st' q=st q):hX st' ls=hX st ls:=by
 unfold hX;rw[qI h,oX h]
theorem jg:∀ (a:Ty) (ls:List Leaf),(∀ q∈aw ls,st' q=st q)->take st' a ls=take st a ls
 |.int k,ls,h=>by simp only[take,gB (.int k) ls h]
 |.bool,ls,h=>by simp only[take,gB .bool ls h]
 |.str,ls,h=>by simp only[take,gB .str ls h]
 |.unit,ls,h=>rfl
 |.hdr,ls,h=>by simp only[take,gB .hdr ls h]
 |.pair a b,ls,h=>by
  simp only[take,jg a ls h];cases z:take st a ls with
  |none=>rfl
  |some x =>
   have H:=j8.take_rest a ls x z;simp only;rw[jg b x.rest (λq y=>h q (fC a.cells ls q (by rw[<- H];exact y)))]
 |.list m E e,ls,h=>by
  cases ls with
  |nil=>rfl
  |cons l ls =>
   have u:∀ q∈aw [l],st' q=st q:=λq y=>h q (by rw[aK];exact BD _ y)
   simp only[take,cl u,je u];congr 1;split
   ·rename_i r j v;rw[cl u]
   ·rfl
   ·rfl
theorem gR {a:Ty}{ls:List Leaf}(h:∀ q∈aw ls,st' q=st q):cj st' a ls=cj st a ls:=by
 unfold cj;rw[jg a ls h]
theorem nR:∀ (a:Ty) (ls:List Leaf) (t:cO a.den),take st a ls=some t->(∀ z∈t.frz,z.1∈aw ls)/\∀ z∈t.kill,z.1∈aw ls
 |.int k,ls,t,h=>by simp only[take,BI]at h;obtain⟨_,_,rfl⟩:=h;exact⟨by simp,by simp⟩
 |.bool,ls,t,h=>by simp only[take,BI]at h;obtain⟨_,_,rfl⟩:=h;exact⟨by simp,by simp⟩
 |.str,ls,t,h=>by simp only[take,BI]at h;obtain⟨_,_,rfl⟩:=h;exact⟨by simp,by simp⟩
 |.hdr,ls,t,h=>by simp only[take,BI]at h;obtain⟨_,_,rfl⟩:=h;exact⟨by simp,by simp⟩
 |.unit,ls,t,h=>by simp only[take,BA]at h;subst h;exact⟨by simp,by simp⟩
 |.pair a b,ls,t,h=>by
  simp only[take]at h;split at h
  ·rename_i x J;split at h
   ·rename_i y Y;simp only[BA]at h;subst h;have X:=j8.take_rest a ls x J;obtain⟨h1,O⟩:=nR a ls x J;obtain⟨I,M⟩:=nR b x.rest y Y;rw[X]at I M;exact⟨λz u=>(BB.1 u).elim (h1 z) (λu=>fC _ _ _ (I z u)),λz u=>(BB.1 u).elim (O z) (λu=>fC _ _ _ (M z u))⟩
   ·cases h
  ·cases h
 |.list m E e,ls,t,h=>by
  cases ls with
  |nil=>simp[take]at h
  |cons l ls =>
   have H:∀ q∈aw [l],q∈aw (l::ls):=λq Z=>by rw[aK];exact BD _ Z
   cases m with
   |false =>
    simp only[take,cond_false]at h;split at h
    ·simp only[BA]at h;subst h;exact⟨λz u=>H _ (eu u),by simp⟩
    ·cases h
   |true =>
    simp only[take,cond_true]at h;split at h
    ·split at h
     ·simp only[BI]at h;obtain⟨_,_,rfl⟩:=h;exact⟨by simp,λz u=>by simp at u;subst u;exact H _ (by simp[aw])⟩
     ·cases h
    ·simp only[BA]at h;subst h;exact⟨by simp,by simp⟩
    ·cases h
theorem iW {a:Ty}{ls:List Leaf}{t:cO a.den}(h:cj st a ls=some t):(∀ z∈t.frz,z.1∈aw ls)/\∀ z∈t.kill,z.1∈aw ls:=by
 unfold cj at h;split at h
 ·rename_i p x f k u;simp only[BA]at h;subst h;exact nR a ls _ u
 ·cases h
theorem jV:∀ {off n:Nat} (a:Ty) (pos:Nat) (x:a.den) (ls:List Leaf) (t:cO a.den),de st off n a pos x ls=some t->∃ k,t.rest=ls.drop k
 |off,n,.pair a b,pos,x,ls,t,h=>by
  simp only[de]at h;split at h
  ·rename_i u I;split at h
   ·rename_i v J;simp only[BA]at h;subst h;obtain⟨y,H⟩:=jV a pos x.1 ls u I;obtain⟨M,z⟩:=jV b (pos+a.cells) x.2 u.rest v J;exact⟨y+M,by show v.rest=_;rw[z,H,Cf]⟩
   ·cases h
  ·cases h
 |off,n,.unit,pos,x,ls,t,h=>by simp only[de,BA]at h;subst h;exact⟨0,rfl⟩
 |off,n,.hdr,pos,x,ls,t,h=>by simp[de]at h
 |off,n,.int k,pos,x,ls,t,h=>sc (a:=.int k) h
 |off,n,.bool,pos,x,ls,t,h=>sc (a:=.bool) h
 |off,n,.str,pos,x,ls,t,h=>sc (a:=.str) h
 |off,n,.list m E e,pos,x,ls,t,h=>sc (a:=.list m E e) h
where
 sc {a:Ty} {b:Bool} {x:a.den} {ls:List Leaf} {t:cO a.den} (h:(bif b then take st a ls else some ⟨false,x,[],[],ls⟩)=some t):∃ k,t.rest=ls.drop k:=by
  cases b with
  |true=>exact⟨_,j8.take_rest a ls t h⟩
  |false=>simp only[cond_false,BA]at h;subst h;exact⟨0,rfl⟩
theorem oZ:∀ {off n:Nat} (a:Ty) (pos:Nat) (x:a.den) (ls:List Leaf),(∀ q∈aw ls,st' q=st q)->de st' off n a pos x ls=de st off n a pos x ls
 |off,n,.pair a b,pos,x,ls,h=>by
  simp only[de,oZ a pos x.1 ls h];cases y:de st off n a pos x.1 ls with
  |none=>rfl
  |some u =>
   obtain⟨k,e⟩:=jV a pos x.1 ls u y;simp only;rw[oZ b (pos+a.cells) x.2 u.rest (λq z=>h q (fC k ls q (by rw[<- e];exact z)))]
 |off,n,.unit,pos,x,ls,h=>rfl
 |off,n,.hdr,pos,x,ls,h=>rfl
 |off,n,.int k,pos,x,ls,h=>by simp only[de,jg (.int k) ls h]
 |off,n,.bool,pos,x,ls,h=>by simp only[de,jg .bool ls h]
 |off,n,.str,pos,x,ls,h=>by simp only[de,jg .str ls h]
 |off,n,.list m E e,pos,x,ls,h=>by simp only[de,jg (.list m E e) ls h]
theorem o6:∀ {off n:Nat} (a:Ty) (pos:Nat) (x:a.den) (ls:List Leaf) (t:cO a.den),de st off n a pos x ls=some t->(∀ z∈t.frz,z.1∈aw ls)/\∀ z∈t.kill,z.1∈aw ls
 |off,n,.pair a b,pos,x,ls,t,h=>by
  simp only[de]at h;split at h
  ·rename_i u I;split at h
   ·rename_i v X;simp only[BA]at h;subst h;obtain⟨k,e⟩:=jV a pos x.1 ls u I;obtain⟨O,M⟩:=o6 a pos x.1 ls u I;obtain⟨H,J⟩:=o6 b (pos+a.cells) x.2 u.rest v X;rw[e]at H J;exact⟨λz y=>(BB.1 y).elim (O z) (λy=>fC _ _ _ (H z y)),λz y=>(BB.1 y).elim (M z) (λy=>fC _ _ _ (J z y))⟩
   ·cases h
  ·cases h
 |off,n,.unit,pos,x,ls,t,h=>by simp only[de,BA]at h;subst h;exact⟨by simp,by simp⟩
 |off,n,.hdr,pos,x,ls,t,h=>by simp[de]at h
 |off,n,.int k,pos,x,ls,t,h=>sc (a:=.int k) h
 |off,n,.bool,pos,x,ls,t,h=>sc (a:=.bool) h
 |off,n,.str,pos,x,ls,t,h=>sc (a:=.str) h
 |off,n,.list m E e,pos,x,ls,t,h=>sc (a:=.list m E e) h
where
 sc {a:Ty} {b:Bool} {x:a.den} {ls:List Leaf} {t:cO a.den} (h:(bif b then take st a ls else some ⟨false,x,[],[],ls⟩)=some t):(∀ z∈t.frz,z.1∈aw ls)/\∀ z∈t.kill,z.1∈aw ls:=by
  cases b with
  |true=>exact nR a ls t h
  |false=>simp only[cond_false,BA]at h;subst h;exact⟨by simp,by simp⟩
theorem u5 {U:Upd}{d:Nat}{sh:aH}{ls:List Leaf}(h:st' d=st d):cm st' U d sh ls=cm st U d sh ls:=by
 simp only[cm,bk h]
theorem rB:∀ {xs:List Operand} {t:Nat},Operand.tmp t∈xs->t∈iu xs
 |[],_,h=>by simp at h
 |x::xs,t,h=>by
  rcases BO.1 h with rfl|h
  ·simp[iu]
  ·have u:=rB h;cases x <;> simp[iu,u]
theorem nj (t n:Nat):∀ (j:Nat) (ls:List Leaf) (q:Nat),q∈aw (bG t n j ls)->q=t\/q∈aw ls
 |_,[],_,h=>by simp[bG,aw]at h
 |j,l::ls,q,h=>by
  simp only[bG]at h;rw[aK,BB]at h;rw[aK,BB];rcases h with h|h
  ·cases l with
   |own p y E e u=>simp[lG,aw]at h;exact .inl h
   |_=>exact .inr (.inl h)
  ·exact (nj t n (j+1) ls q h).imp id .inr
theorem la:∀ (y u:List Leaf),az (y++u)=az y++az u
 |[],_=>rfl
 |l::y,u=>by cases l <;> simp[az,la y u]
theorem dy (l:Leaf)(ls:List Leaf):az (l::ls)=az [l]++az ls:=la [l] ls
theorem fD:∀ {ls:List Leaf} {q:Nat},q∈aw ls->q∈az ls
 |[],_,h=>by simp[aw]at h
 |l::ls,q,h=>by
  rw[aK,BB]at h;rw[dy,BB];rcases h with h|h
  ·left;cases l with
   |nal p u ep y E e z=>simp[aw]at h;simpa[az]using h
   |np p u ep a x off=>simp[aw]at h;simpa[az]using h
   |_=>simp[aw]at h <;> simp[az,h]
  ·exact .inr (fD h)
theorem nk (t n:Nat):∀ (j:Nat) (ls:List Leaf) (q:Nat),q∈az (bG t n j ls)->q=t\/q∈az ls
 |_,[],_,h=>by simp[bG,az]at h
 |j,l::ls,q,h=>by
  simp only[bG]at h;rw[dy,BB]at h;rw[dy,BB];rcases h with h|h
  ·cases l with
   |own p y E e u=>simp[lG,az]at h;exact .inl h
   |_=>exact .inr (.inl h)
  ·exact (nk t n (j+1) ls q h).imp id .inr
theorem rD {x:Operand}{q:Nat}(h:q∈aw (au st x).2):∃ t,x=.tmp t/\(q=t\/q∈aw (st t).ls):=by
 cases x with
 |tmp t =>
  simp only[au]at h;cases y:Cb t GH with
  |false=>simp[y,aw]at h
  |true=>simp only[y,cond_true]at h;exact⟨t,rfl,nj _ _ _ _ _ h⟩
 |const v =>
  simp only[au]at h;split at h
  ·rename_i l u;unfold ir at u;split at u <;> simp at u <;> subst u <;> simp[aw]at h
  ·simp[aw]at h
 |func f=>simp[au,aw]at h
 |global g=>simp[au,aw]at h
theorem rE {x:Operand}{q:Nat}(h:q∈az (au st x).2):∃ t,x=.tmp t/\(q=t\/q∈az (st t).ls):=by
 cases x with
 |tmp t =>
  simp only[au]at h;cases y:Cb t GH with
  |false=>simp[y,az]at h
  |true=>simp only[y,cond_true]at h;exact⟨t,rfl,nk _ _ _ _ _ h⟩
 |const v =>
  simp only[au]at h;split at h
  ·rename_i l u;unfold ir at u;split at u <;> simp at u <;> subst u <;> simp[az]at h
  ·simp[az]at h
 |func f=>simp[au,az]at h
 |global g=>simp[au,az]at h
theorem qK {x:Operand}{l:Leaf}(h:one st x=l)(y:l≠.dead):(au st x).2=[l]:=by
 unfold one at h;split at h
 ·rename_i z u;rw[u,h]
 ·exact absurd h.symm y
theorem jh {x:Operand}{q:Nat}(h:q∈aw [one st x]):q∈aw (au st x).2:=by
 by_cases u:one st x=.dead
 ·rw[u]at h;simp[aw]at h
 ·rw[qK rfl u];exact h
theorem tE {x:Operand}{q:Nat}(h:q∈az [one st x]):q∈az (au st x).2:=by
 by_cases u:one st x=.dead
 ·rw[u]at h;simp[az]at h
 ·rw[qK rfl u];exact h
def jp:Leaf->Bool×Leaf
 |.own _ _ _ e u=>(true,.ep 0 0 0 e.cells u.length 0)
 |l=>(false,l)
def bL (c:bT):Nat×aH×List (Bool×Leaf):=(c.ver,c.sh,c.ls.map jp)
theorem tF {l l':Leaf}(h:jp l'=jp l):l'=l\/∃ (p p':Bool) (z y:Option (Nat×Nat)) (E E':TypeId) (e e':Ty) (xs:List e.den) (u:List e'.den),l=.own p z E e xs/\l'=.own p' y E' e' u/\e'.cells=e.cells/\u.length=xs.length:=by
 cases l <;> cases l' <;> simp only[jp,BS,CQ,reduceCtorEq,false_and,and_false,true_and,Leaf.ep.injEq,Bool.true_eq_false]at h <;>
  first
  |exact .inr ⟨_,_,_,_,_,_,_,_,_,_,rfl,rfl,h.1,h.2.1⟩
  |exact .inr ⟨_,_,_,_,_,_,_,_,_,_,rfl,rfl,h.1,h.2⟩
  |exact .inl rfl
  |exact .inl (by rw[h])
  |exact .inl h
  |(obtain⟨rfl,rfl,rfl,rfl,rfl,rfl⟩:=h;exact .inl rfl)
theorem p8 (t n:Nat):∀ (j:Nat) (ls u:List Leaf),u.map jp=ls.map jp->bG t n j u=bG t n j ls
 |_,[],[],_=>rfl
 |_,[],_::_,h=>by simp at h
 |_,_::_,[],h=>by simp at h
 |j,l::ls,J::u,h=>by
  simp only[BY,Cc]at h;simp only[bG,p8 t n (j+1) ls u h.2];rcases tF h.1 with e|⟨p,Y,Z,y,E,M,e,O,X,I,H,z,_,_⟩
  ·rw[e]
  ·rw[H,z];rfl
theorem xS {x:Operand}(h:∀ t,x=.tmp t->bL (st' t)=bL (st t)):au st' x=au st x:=by
 cases x with
 |tmp t =>
  have:=h t rfl;simp only[bL,BS]at this;simp only[au,this.1,this.2.1,p8 _ _ _ _ _ this.2.2]
 |_=>rfl
theorem zt {x:Operand}(h:∀ t,x=.tmp t->bL (st' t)=bL (st t)):one st' x=one st x:=by
 unfold one;rw[xS h]
theorem xT {c u:bT}(h:bL u=bL c)(j:Nat):jp (u.ls.getD j .dead)=jp (c.ls.getD j .dead):=by
 simp only[bL,BS]at h;have:=congrArg (λl=>l[j]?) h.2.2;simp only[Cs]at this;rw[BP,BP];generalize u.ls[j]?=a at this;generalize c.ls[j]?=b at this
 match a,b,this with
 |none,none,_=>rfl
 |some x,some y,h=>exact C0 h
theorem rF (l:Leaf):ll l=(jp l).1:=by cases l <;> rfl
theorem yY {ks:List (Nat×Nat×Nat)}{ep:Nat}(h:∀ q∈EPO::ks.map (·.1),bL (st' q)=bL (st q)):br st' ks ep=br st ks ep:=by
 unfold br;have z:=h EPO (BG ..);simp only[bL,BS]at z;rw[z.1];congr 1;induction ks with
 |nil=>rfl
 |cons k ks H =>
  have y:=h k.1 (by simp);have I:(st' k.1).ver=(st k.1).ver:=by simp only[bL,BS]at y;exact y.1
  rw[CX,CX,H (λq u=>h q (by simp at u ⊢;rcases u with u|u;exact .inl u;exact .inr (.inr u))),rF,rF,xT y,I]
end
section
variable {P:Program} {V:Env} {Γ:List Ctr} {T:TypeId->TI} {st st':St} {o:Oper} {R:Type} {κ:Upd->Option R} {r:R}
theorem tG {d:Nat}(u:o.dst=some d)(h:∀ q∈fj st o,st' q=st q):st' d=st d/\st' (B0+d)=st (B0+d):=by
 refine⟨h d ?_,h (B0+d) ?_⟩ <;> simp[fj,zg,u]
theorem lf {ls:List Leaf}(h:∀ q∈aw ls,st' q=st q):∀ x∈bz st ls,st' x.1=st x.1:=λx u=>h _ (eu u)
theorem p9 {u:List (Nat×Nat×Bool)}:∀ (ps:List (Nat×Operand)) (ls:List Leaf),(∀ x∈ps,∀ t,x.2=.tmp t->st' t=st t)->fh st' u ps ls=fh st u ps ls
 |[],_,_=>rfl
 |(i,x)::ps,ls,h=>by
  simp only[fh,dU (h (i,x) (BG ..))];split
  ·rw[p9 ps _ (λy z=>h y (BF _ z))]
  ·rfl
theorem om {e:Ty}:∀ (ps:List (Nat×Operand)) (k:Nat),(∀ x∈ps,(∀ t,x.2=.tmp t->st' t=st t)/\∀ q∈aw (au st x.2).2,st' q=st q)->ew st' e k ps=ew st e k ps
 |[],_,_=>rfl
 |(i,x)::ps,k,h=>by
  have u:=h (i,x) (BG ..);simp only[ew,dU u.1,gR u.2,om ps (k+1) (λy z=>h y (BF _ z))]
theorem oo {e:Ty}:∀ (ps:List (Nat×Operand)) (k:Nat) (u:cO (List e.den)),ew st e k ps=some u->∀ z,z∈u.frz\/z∈u.kill->∃ x∈ps,z.1∈aw (au st x.2).2
 |[],_,_,h=>by simp only[ew,BA]at h;subst h;simp
 |(i,x)::ps,k,u,h=>by
  simp only[ew]at h;cases O:BJ i k&&decide ((au st x).1=bh e.isAgg) with
  |false=>simp[O]at h
  |true =>
   simp only[O,cond_true]at h;split at h
   ·rename_i t1 M hg J;simp only[BA]at h;subst h;intro z H;obtain⟨p1,X⟩:=iW hg;have I:(z∈t1.frz\/z∈t1.kill)\/(z∈M.frz\/z∈M.kill):=by
     rcases H with H|H <;> rcases BB.1 H with H|H
     ·exact .inl (.inl H)
     ·exact .inr (.inl H)
     ·exact .inl (.inr H)
     ·exact .inr (.inr H)
    rcases I with H|H
    ·exact⟨(i,x),BG ..,H.elim (p1 z) (X z)⟩
    ·obtain⟨y,Z,Y⟩:=oo ps (k+1) M J z H;exact⟨y,BF _ Z,Y⟩
   ·cases h
theorem nl {x:Option Operand}{n:Int}(h:∀ y,x=some y->∀ t,y=.tmp t->st' t=st t):dl st' x n=dl st x n:=by
 cases x with
 |none=>rfl
 |some y=>simp only[dl,dH (h y rfl)]
theorem u6:∀ (xs:List Operand) (u:Option (List Nat)),(∀ x∈xs,∀ t,x=.tmp t->st' t=st t) ->
  xs.foldl (λ (u:Option (List Nat)) x=>u.bind λl=>match one st' x with|.bp b 0=>some (l++[b])|_=>none) u =
  xs.foldl (λ (u:Option (List Nat)) x=>u.bind λl=>match one st x with|.bp b 0=>some (l++[b])|_=>none) u
 |[],_,_=>rfl
 |x::xs,u,h=>by
  simp only[C3,dH (h x (BG ..))];exact u6 xs _ (λy z=>h y (BF _ z))
theorem qa {l:Leaf}(y:st' TMP=st TMP)(H:st' EPO=st EPO)(h:∀ q∈aw [l],st' q=st q):cn st' l=cn st l:=by
 cases l with
 |nal p z ep u E e M =>
  rw[ip]at h;simp only[cn,jA h,y,H];congr 1
  match z,u,h with
  |[(r,j,n)],some (i,J,off),h =>
   have I:=h r (by simp);simp only[I]
  |[(r,j,n)],none,_=>rfl
  |[],_,_=>rfl
  |_::_::_,_,_=>rfl
 |_=>rfl
theorem ou {l l':Leaf}{U:Upd}(h:cn st l=some (U,l')):∃ n,l'=.al TMP 0 n/\∀ q,q≠TMP->∀ z∈az (ac U st q).ls,z∈az (st q).ls:=by
 cases l with
 |nal p ks ep a0 E e Z =>
  simp only[cn]at h;cases H:br st ks ep with
  |false=>simp[H]at h
  |true =>
   rw[H]at h;simp only[cond_true]at h;split at h
   ·rename_i r j n0 i sz off;split at h
    ·rename_i p' E' M O hg;cases X:!BJ r TMP&&!BJ r EPO&&BJ sz M.cells with
     |false=>simp[X]at h
     |true =>
      rw[X]at h;simp only[cond_true]at h;split at h
      ·split at h
       ·rename_i y _ _ _ _ _;simp only[BA,BS]at h;obtain⟨rfl,rfl⟩:=h;refine⟨_,rfl,λq hq z u=>?_⟩;rw[aO]at u;rcases aj r q ⟨(st r).ver,(st r).sh,aR (st r).ls j (.own p' (some (i,off)) E' M O)⟩ (ac [(TMP,⟨(st TMP).ver+1,.one,[.own (p'&&M.shy) none _ _ _]⟩),(EPO,bV (st EPO))] st) with ⟨rfl,J⟩|⟨_,J⟩
        ·rw[J]at u;exact refs_set u
        ·rw[J,aO,aI hq]at u;rcases aj EPO q (bV (st EPO)) st with ⟨rfl,Y⟩|⟨_,Y⟩ <;> rw[Y]at u <;> exact u
       ·cases h
      ·cases h
    ·cases h
   ·cases h
 |_=>simp[cn]at h
where
 refs_set {I:List Leaf} {j z:Nat} {p:Bool} {hh:Option (Nat×Nat)} {E:TypeId} {e:Ty} {Z:List e.den} (h:z∈az (aR I j (.own p hh E e Z))):z∈az I:=by
  unfold aR at h;induction I generalizing j with
  |nil=>simpa using h
  |cons l I ih =>
   cases j with
   |zero =>
    rw[List.set_cons_zero,dy,BB]at h;rw[dy,BB];rcases h with h|h
    ·simp[az]at h
    ·exact .inr h
   |succ j =>
    rw[Cp,dy,BB]at h;rw[dy,BB];exact h.imp id ih
theorem uv {l l':Leaf}{U:Upd}(h:cn st l=some (U,l')):az (ac U st TMP).ls=[]:=by
 cases l with
 |nal p H ep M E e Z =>
  simp only[cn]at h;cases u:br st H ep with
  |false=>simp[u]at h
  |true =>
   rw[u]at h;simp only[cond_true]at h;split at h
   ·rename_i r j X i J off;split at h
    ·rename_i p' Y I O hg;cases y:!BJ r TMP&&!BJ r EPO&&BJ J I.cells with
     |false=>simp[y]at h
     |true =>
      rw[y]at h;simp only[cond_true]at h;have z:TMP≠r:=λe=>by subst e;simp at y
      split at h
      ·split at h
       ·simp only[BA,BS]at h;obtain⟨rfl,rfl⟩:=h;rw[aO,aI z,aO,bj];rfl
       ·cases h
      ·cases h
    ·cases h
   ·cases h
 |_=>simp[cn]at h
theorem wk {E:TypeId}{e:Ty}{y:Leaf}(u:∀ q∈aw [y],st' q=st q):fN st' E e y=fN st E e y:=by
 unfold fN;rw[cl u,je u,gR u]
theorem wm {E:TypeId}{e:Ty}{y:Leaf}{t:cO (List e.den)}(h:fN st E e y=some t):(∀ z∈t.frz,z.1∈aw [y])/\∀ z∈t.kill,z.1∈aw [y]:=by
 unfold fN at h;cases u:e.flat with
 |true =>
  rw[u]at h;simp only[cond_true,BI]at h;obtain⟨_,_,rfl⟩:=h;exact⟨by simp,by simp⟩
 |false =>
  rw[u]at h;simp only[cond_false]at h;cases H:decide (e.sh=e) with
  |true =>
   rw[H]at h;simp only[cond_true,BI]at h;obtain⟨_,_,rfl⟩:=h;exact⟨λz J=>eu J,by simp⟩
  |false =>
   rw[H]at h;simp only[cond_false,BI]at h;obtain⟨M,I,rfl⟩:=h;exact iW I
theorem lg {u:Upd}{d:Nat}{E:TypeId}{e:Ty}{H:Nat}{p:Bool}{xs:List e.den}{ks:List (Nat×Nat)}{y:Leaf}(O:∀ z∈ks,st' z.1=st z.1)(M:∀ q∈aw [y],st' q=st q)(Y:st' d=st d) :
  dV st' (ac u st') u d E e H p xs ks y κ=dV st (ac u st) u d E e H p xs ks y κ:=by
 unfold dV;have J:∀ q,st' q=st q->ac u st' q=ac u st q:=λq h=>bk h u
 rw[wk (st:=ac u st) (st':=ac u st') (λq Z=>J q (M q Z))];split
 ·rename_i t ht;obtain⟨p1,X⟩:=wm ht;have e1:aE (ac u st') t.frz=aE (ac u st) t.frz:=j9 (λz I=>J _ (M _ (p1 z I)));have e2:∀ U:Upd,aM (ac U (ac u st')) (t.kill++ks)=aM (ac U (ac u st)) (t.kill++ks):=λU=>iq (λz I=>bk (J _ ((BB.1 I).elim (λI=>M _ (X z I)) (O z))) U)
  simp only[e1,e2,u5 Y]
 ·rfl
theorem wn {H:Upd}{d:Nat}{E:TypeId}{e:Ty}{u:Nat}{x y:Leaf}(J:∀ q∈aw [x],st' q=st q)(M:∀ q∈aw [y],st' q=st q)(O:st' d=st d):eo st' H d E e u x y κ=eo st H d E e u x y κ:=by
 unfold eo;cases x with
 |al r j v =>
  have X:st' r=st r:=J r (by simp[aw]);simp only;rw[cl (st:=ac H st) (st':=ac H st') (l:=.al r j v) (λq Y=>bk (J q Y) H)];split
  ·rw[lg (λz I=>by simp at I;subst I;exact X) M O]
  ·rfl
 |nil=>exact lg (by simp) M O
 |_=>rfl
theorem wo {d:Nat}{E:TypeId}{e:Ty}{H:Nat}{x y:Leaf}(I:st' TMP=st TMP)(J:∀ q∈aw [x],st' q=st q)(X:∀ q∈aw [y],st' q=st q)(Y:st' d=st d):it st' d E e H x y κ=it st d E e H x y κ:=by
 unfold it;rw[wn J X Y,gZ,gZ];cases hn:jk x with
 |false=>rfl
 |true =>
  simp only[cond_true];have Z:st' EPO=st EPO:=by
   cases x with
   |nal p ks ep a0 E e xs=>exact J EPO (by rw[ip];exact BG ..)
   |_=>simp[jk]at hn
  rw[qa I Z J];cases hu:cn st x with
  |none=>rfl
  |some u =>
   obtain⟨n,e1,_⟩:=ou (U:=u.1) (l':=u.2) hu;simp only[CB];rw[e1];unfold eo;simp only;have e2:∀ q,q=TMP->ac u.1 st' q=ac u.1 st q:=λq M=>by rw[M];exact bk I u.1
   rw[cl (st:=ac u.1 st) (st':=ac u.1 st') (l:=.al TMP 0 n) (λq M=>e2 q (by simpa[aw]using M))];split
   ·rw[lg (λz O=>by simp at O;subst O;exact I) X Y]
   ·rfl
structure eL (st st':St) (ls:List Leaf):Prop where
 d1:∀ q∈az ls,st' q=st q
 d2:∀ r∈az ls,∀ q∈az (st r).ls,st' q=st q
 d3:∀ r∈az ls,∀ r2∈az (st r).ls,∀ q∈az (st r2).ls,st' q=st q
theorem kq (p:Bool):∀ (a:Ty) (x:a.den),az (cN p a x)=[]
 |.int _,_=>rfl
 |.bool,_=>rfl
 |.str,_=>rfl
 |.unit,_=>rfl
 |.hdr,_=>rfl
 |.pair a b,x=>by simp[cN,la,kq p a,kq p b]
 |.list _ _ _,_=>rfl
theorem rG {l:Leaf}(h:∀ q∈az [l],st' q=st q):target st' l=target st l:=by
 unfold target;cases l with
 |bp b off =>
  have u:=h b (by simp[az]);cases off with
  |zero=>simp only[u]
  |succ n=>rfl
 |rp p a x off=>cases off <;> rfl
 |_=>rfl
theorem lh {l:Leaf}{ls:List Leaf}(h:target st l=some ls):∀ q∈az ls,q∈az [l]\/∃ r∈az [l],q∈az (st r).ls:=by
 unfold target at h;split at h
 ·rename_i b;cases y:decide ((st b).sh=.agg) with
  |false=>simp[y]at h
  |true =>
   simp only[y,cond_true,BA]at h;subst h;intro q u;rcases nk _ _ _ _ _ u with rfl|u
   ·exact .inl (by simp[az])
   ·exact .inr ⟨b,by simp[az],u⟩
 ·simp only[BA]at h;subst h;intro q u;rw[kq]at u;simp at u
 ·simp only[BA]at h;subst h;intro q u;simp[az]at u
 ·cases h
theorem iX {x:aH×List Leaf}{q:Nat}(h:q∈az [co x]):q∈az x.2:=by
 unfold co at h;split at h
 ·exact h
 ·simp[az]at h
theorem eL.target {l:Leaf}{ls:List Leaf}(h:eL st st' [l])(H:Go.Proofs.YtadlacffdemoiaaGreatEv.target st l=some ls):(∀ q∈az ls,st' q=st q)/\∀ r∈az ls,∀ q∈az (st r).ls,st' q=st q:=by
 constructor
 ·intro q y;rcases lh H q y with u|⟨r,u,z⟩
  ·exact h.d1 q u
  ·exact h.d2 r u q z
 ·intro r J q y;rcases lh H r J with u|⟨I,u,z⟩
  ·exact h.d2 r u q y
  ·exact h.d3 I u r z q y
theorem eL.one {x:aH×List Leaf}(h:eL st st' x.2):eL st st' [co x] :=
 ⟨λq y=>h.d1 q (iX y),λr u=>h.d2 r (iX u),λr u=>h.d3 r (iX u)⟩
def nm {α:Type}(st st':St)(g:Got α):Prop:=(∀ z∈g.frz,st' z.1=st z.1)/\(∀ z∈g.kill,st' z.1=st z.1)
theorem nn {c:Bool×Ty}{l:Leaf}(X:eL st st' [l]):fg st' c l=fg st c l/\∀ g,fg st c l=some g->nm st st' g:=by
 unfold fg;rw[rG X.d1];cases M:target st l with
 |none=>cases c.1 <;> exact⟨rfl,by simp⟩
 |some Y =>
  have y:=X.target M;cases hc:c.1 with
  |false =>
   have u:∀ q∈aw Y,st' q=st q:=λq J=>y.1 q (fD J)
   simp only[cond_false,eD u,je u,true_and];intro g z;simp only[BI]at z;obtain⟨_,_,rfl⟩:=z;exact⟨lf u,by simp[Got.ofRd]⟩
  |true =>
   simp only[cond_true]
   match Y,y,M with
   |[],_,_=>exact⟨rfl,by simp⟩
   |_::_::_,_,_=>exact⟨rfl,by simp⟩
   |[Z],y,M =>
    simp only[rG y.1];cases H:target st Z with
    |none=>exact⟨rfl,by simp⟩
    |some I =>
     have u:∀ q∈aw I,st' q=st q:=by
      intro q J;rcases lh H q (fD J) with O|⟨r,O,h5⟩
      ·exact y.1 q O
      ·exact y.2 r O q h5
     simp only[eD u,je u,true_and];intro g z;simp only[BI]at z;obtain⟨_,_,rfl⟩:=z;exact⟨lf u,by simp[Got.ofRd]⟩
theorem mp:∀ (cs:List (Bool×Ty)) (ls:List Leaf),(∀ l∈ls,eL st st' [l])->cC st' cs ls=cC st cs ls/\∀ g,cC st cs ls=some g->nm st st' g
 |[],[],_=>⟨rfl,λg u=>by simp only[cC,BA]at u;subst u;exact⟨by simp,by simp⟩⟩
 |[],_::_,_=>⟨rfl,λg u=>by simp[cC]at u⟩
 |_::_,[],_=>⟨rfl,λg u=>by simp[cC]at u⟩
 |c::cs,l::ls,h=>by
  obtain⟨Y,J⟩:=nn (c:=c) (h l (BG ..));obtain⟨M,h4⟩:=mp cs ls (λy X=>h y (BF _ X));simp only[cC,Y,M,true_and];intro g u;split at u
  ·rename_i Z I;split at u
   ·rename_i g2 H;simp only[BA]at u;subst u;exact⟨λz O=>(BB.1 O).elim ((J Z I).1 z) ((h4 g2 H).1 z),by simp⟩
   ·cases u
  ·cases u
theorem ov {c:Nat}{q:Nat}:∀ {ls:List Leaf} {c:Nat},q∈aw (aR ls c .nil)->q∈aw ls
 |[],_,h=>h
 |l::ls,0,h=>by
  rw[show aR (l::ls) 0 .nil=.nil::ls from rfl,aK,BB]at h;rw[aK,BB];rcases h with h|h
  ·simp[aw]at h
  ·exact .inr h
 |l::ls,c+1,h=>by
  rw[show aR (l::ls) (c+1) .nil=l::aR ls c .nil from rfl,aK,BB]at h;rw[aK,BB];exact h.imp id (ov (c:=c))
theorem o7 {caps:List Nat}{f:FuncId}(H:eL st st' [.clo f caps]):∀ l∈caps.map (λb=>Leaf.bp b 0),eL st st' [l]:=by
 intro l J;obtain⟨b,I,rfl⟩:=BL.1 J;have u:b∈az [Leaf.clo f caps]:=by simp[az,I]
 have y:∀ r∈az [Leaf.bp b 0],r=b:=λr z=>by simpa[az]using z
 exact⟨λq M=>H.d1 q (by rw[y q M];exact u),λr z=>H.d2 r (by rw[y r z];exact u),λr z=>H.d3 r (by rw[y r z];exact u)⟩
theorem nq {caps:List (Bool×Bool×(a:Ty)×a.den)}:∀ l∈caps.map eM,eL st st' [l]:=by
 intro l z;obtain⟨c,H,rfl⟩:=BL.1 z;have:∀ q,q∉az [eM c]:=by
  intro q u;unfold eM at u;cases y:c.2.1 <;> rw[y]at u <;> simp[az]at u
 exact⟨λq u=>absurd u (this q),λq u=>absurd u (this q),λq u=>absurd u (this q)⟩
theorem el {pk:PK}{x:aH×List Leaf}(h:eL st st' x.2):bg st' pk x=bg st pk x/\∀ g,bg st pk x=some g->nm st st' g:=by
 have Y:∀ q∈aw x.2,st' q=st q:=λq O=>h.d1 q (fD O)
 have h1:=h.one;have H:∀ {b:Bool} {a:Ty} {g:Got a.den},(bif b then (cj st a x.2).map (λt=>(⟨t.p,t.val,t.frz,t.kill,[],[]⟩:Got a.den)) else none)=some g->nm st st' g:=by
  intro b a g u;cases b with
  |false=>simp at u
  |true =>
   simp only[cond_true,BI]at u;obtain⟨t,ht,rfl⟩:=u;obtain⟨p1,p2⟩:=iW ht;exact⟨λz I=>Y _ (p1 z I),λz I=>Y _ (p2 z I)⟩
 cases pk with
 |rd a =>
  simp only[bg,eD Y,je Y,true_and];intro g u;cases M:decide (x.1=bh a.isAgg) with
  |false=>simp[M]at u
  |true =>
   simp only[M,cond_true,BI]at u;obtain⟨y,_,rfl⟩:=u;exact⟨lf Y,by simp[Got.ofRd]⟩
 |own a =>
  simp only[bg,gR Y,true_and];exact λg u=>H u
 |io a =>
  simp only[bg,gR Y,true_and];exact λg u=>H u
 |rref a=>exact nn (c:=(false,a)) h1
 |rref2 a=>exact nn (c:=(true,a)) h1
 |iop a =>
  simp only[bg];split
  ·rename_i b Z;rw[Z]at h1;have M:=h1.d1 b (by simp[az]);have h3:∀ q∈aw (bG b (st b).ver 0 (st b).ls),st' q=st q:=by
    intro q O;rcases nj _ _ _ _ _ O with rfl|O
    ·exact M
    ·exact h1.d2 b (by simp[az]) q (fD O)
   simp only[M,gR h3,true_and];intro g u;cases a1:decide ((st b).sh=.agg) with
   |false=>simp[a1]at u
   |true =>
    simp only[a1,cond_true,BI]at u;obtain⟨t,ht,rfl⟩:=u;obtain⟨p1,p2⟩:=iW ht;exact⟨λz I=>h3 _ (p1 z I),λz I=>h3 _ (p2 z I)⟩
  ·exact⟨rfl,by simp⟩
 |fn As B =>
  simp only[bg,true_and];intro g u;split at u
  ·split at u
   ·simp only[BA]at u;subst u;exact⟨by simp,by simp⟩
   ·cases u
  ·cases u
 |clo f cs =>
  simp only[bg];split
  ·rename_i f' caps Z;rw[Z]at h1;have:=mp cs _ (o7 h1);rw[this.1];refine⟨rfl,λg u=>?_⟩;cases M:BJ f' f with
   |false=>simp[M]at u
   |true=>rw[M]at u;exact this.2 g u
  ·rename_i f' caps Z;have:=mp (st:=st) (st':=st') cs _ (nq (caps:=caps));rw[this.1];refine⟨rfl,λg u=>?_⟩;cases M:BJ f' f with
   |false=>simp[M]at u
   |true=>rw[M]at u;exact this.2 g u
  ·exact⟨rfl,by simp⟩
 |hol a c off =>
  simp only[bg];have X:∀ q∈aw (aR x.2 c .nil),st' q=st q:=λq O=>Y q (ov (c:=c) O)
  rw[gR X];cases M:decide (x.1=bh a.isAgg) with
  |false=>exact⟨rfl,by simp⟩
  |true =>
   simp only[cond_true];split
   ·rename_i r j v J;have a2:x.2[c]?=some (.al r j v):=by
     rw[BP]at J;cases O:x.2[c]? with
     |none=>rw[O]at J;simp at J
     |some l0=>rw[O]at J;simp at J;rw[J]
    have hr:=λq O=>Y q (qH a2 q O)
    rw[cl hr];refine⟨rfl,λg u=>?_⟩;split at u
    ·rename_i p i o' E e xs _;cases a0:BJ o' off with
     |false=>simp[a0]at u
     |true =>
      rw[a0]at u;simp only[cond_true]at u;split at u
      ·rename_i t ht;split at u
       ·simp only[BA]at u;subst u;obtain⟨p1,p2⟩:=iW ht;refine⟨λz I=>X _ (p1 z I),λz I=>?_⟩;rcases BO.1 I with rfl|I
        ·exact hr r (by simp[aw])
        ·exact X _ (p2 z I)
       ·cases u
      ·cases u
    ·cases u
   ·exact⟨rfl,by simp⟩
theorem kr {ga ga':(pk:PK)->aH×List Leaf->Option (Got pk.den)}:∀ (ps:List PK) (xs:List (aH×List Leaf)),
  (∀ x∈xs,∀ pk,ga' pk x=ga pk x/\∀ g,ga pk x=some g->nm st st' g) ->
  bc ga' ps xs=bc ga ps xs/\∀ g,bc ga ps xs=some g->nm st st' g
 |[],[],_=>⟨rfl,λg u=>by simp only[bc,BA]at u;subst u;exact⟨by simp,by simp⟩⟩
 |[],_::_,_=>⟨rfl,λg u=>by simp[bc]at u⟩
 |_::_,[],_=>⟨rfl,λg u=>by simp[bc]at u⟩
 |p::ps,x::xs,h=>by
  obtain⟨h1,M⟩:=h x (BG ..) p;obtain⟨Z,X⟩:=kr ps xs (λy hy=>h y (BF _ hy));simp only[bc,h1,Z,true_and];intro g u;split at u
  ·rename_i O I;split at u
   ·rename_i Y H;simp only[BA]at u;subst u;exact⟨λz J=>(BB.1 J).elim ((M O I).1 z) ((X Y H).1 z),λz J=>(BB.1 J).elim ((M O I).2 z) ((X Y H).2 z)⟩
   ·cases u
  ·cases u
theorem tH {H:List Ty}{B:Ty}{f:FuncId}{ls:List Leaf}(h:∀ l∈ls,eL st st' [l]):kt Γ st' H B f ls=kt Γ st H B f ls/\∀ g,kt Γ st H B f ls=some g->nm st st' g:=by
 have u:=λ (q:List PK)=>kr (st:=st) (st':=st') (ga:=bg st) (ga':=bg st') q (ls.map λl=>(aH.one,[l])) (λy O Y=>by
  obtain⟨l,M,rfl⟩:=BL.1 O;exact el (h l M))
 unfold kt;split
 ·rename_i c X;unfold rX;simp only[uy,(u _).1,true_and];intro g z;split at z
  ·cases J:(c.ps.drop H.length).all PK.reads&&B.flat&&c.fresh with
   |false=>simp[J]at z
   |true =>
    simp only[J,cond_true]at z;split at z
    ·rename_i g0 I;simp only[BA]at z;subst z;exact⟨((u _).2 g0 I).1,by simp⟩
    ·cases z
  ·cases z
 ·exact⟨rfl,by simp⟩
theorem wq {pk:PK}{x:aH×List Leaf}(h:eL st st' x.2):cf Γ st' pk x=cf Γ st pk x/\∀ g,cf Γ st pk x=some g->nm st st' g:=by
 cases pk with
 |fn O B =>
  simp only[cf];split
  ·rename_i H y;have z:(∃ u,co x=.clo H.1 u/\H.2=u.map λb=>Leaf.bp b 0)\/∃ u,co x=.clr H.1 u/\H.2=u.map eM:=by
    generalize co x=l at y;cases l <;> simp only[vi,BA,reduceCtorEq]at y
    ·subst y;exact .inl ⟨_,rfl,rfl⟩
    ·subst y;exact .inr ⟨_,rfl,rfl⟩
   have J:=h.one;rcases z with ⟨u,z,I⟩|⟨u,z,I⟩
   ·rw[z]at J;rw[I];exact tH (o7 J)
   ·rw[I];exact tH nq
  ·exact el h
 |rd a=>exact el (pk:=.rd a) h
 |own a=>exact el (pk:=.own a) h
 |io a=>exact el (pk:=.io a) h
 |rref a=>exact el (pk:=.rref a) h
 |rref2 a=>exact el (pk:=.rref2 a) h
 |iop a=>exact el (pk:=.iop a) h
 |clo f M=>exact el (pk:=.clo f M) h
 |hol a c off=>exact el (pk:=.hol a c off) h
theorem tI:∀ (u ls:List Leaf),st' EPO=st EPO->(∀ q∈az u,st' q=st q)->ce st' u ls=ce st u ls
 |[],_,_,_=>by simp[ce]
 |x::u,[],_,_=>by cases x <;> simp[ce]
 |x::u,l::ls,z,h=>by
  have y:=tI u ls z (λq I=>h q (by rw[dy];exact BE _ I));cases x with
  |al r j v =>
   have H:st' r=st r:=h r (by simp[az]);simp only[ce,y,bk H,bk z]
  |_=>simp only[ce,y]
theorem qb {p:Bool}:∀ (ps:List PK) (xs:List (aH×List Leaf)) (y:ah ps),st' EPO=st EPO->(∀ x∈xs,∀ q∈az x.2,st' q=st q)->aG st' p ps xs y=aG st p ps xs y
 |[],_,_,_,_=>by simp[aG]
 |I::ps,[],y,_,h=>by cases I <;> simp[aG]
 |I::ps,x::xs,y,X,h=>by
  have u:=λ (y:ah ps)=>qb (p:=p) ps xs y X (λz Y=>h z (BF _ Y))
  have O:=h x (BG ..);cases I with
  |io a =>
   simp only[aG,u];rw[tI x.2 _ (bk X _) (λq H=>bk (O q H) _)]
  |iop a =>
   simp only[aG,u];have M:∀ q∈az [co x],st' q=st q:=λq H=>O q (iX H)
   congr 1;split
   ·rename_i b v J;rw[J]at M;rw[bk (M b (by simp[az]))]
   ·rfl
  |_=>exact u _
theorem qc {n q:Nat}:∀ {ls:List Leaf} {k:Nat},q∈az (aR ls k (.al TMP 0 n))->q∈az ls\/q=TMP
 |[],_,h=>.inl h
 |l::ls,0,h=>by
  rw[show aR (l::ls) 0 (.al TMP 0 n)=.al TMP 0 n::ls from rfl,dy,BB]at h;rw[dy,BB];rcases h with h|h
  ·simp[az]at h;exact .inr h
  ·exact .inl (.inr h)
 |l::ls,k+1,h=>by
  rw[show aR (l::ls) (k+1) (.al TMP 0 n)=l::aR ls k (.al TMP 0 n) from rfl,dy,BB]at h;rw[dy,BB];rcases h with h|h
  ·exact .inl (.inl h)
  ·exact (qc h).imp .inr id
theorem o8 {U:Upd}{Y ls:List Leaf}(hT:st' TMP=st TMP)(u:∀ q,q≠TMP->∀ z∈az (ac U st q).ls,z∈az (st q).ls)(M:az (ac U st TMP).ls=[])(Z:eL st st' Y)(H:∀ q∈az ls,q∈az Y\/q=TMP) :
  eL (ac U st) (ac U st') ls:=by
 have I:∀ r z,z∈az (ac U st r).ls->r≠TMP:=λr z hz e=>by subst e;rw[M]at hz;simp at hz
 refine⟨λq y=>?_,λr hr q y=>?_,λr hr O J q y=>?_⟩
 ·rcases H q y with h|h
  ·exact bk (Z.d1 q h) U
  ·subst h;exact bk hT U
 ·have X:=I r q y;exact bk (Z.d2 r ((H r hr).resolve_right X) q (u r X q y)) U
 ·have X:=I r O J;have h2:=I O q y;exact bk (Z.d3 r ((H r hr).resolve_right X) O (u r X O J) q (u O h2 q y)) U
theorem ox (Y:st' TMP=st TMP)(hE:st' EPO=st EPO):∀ (ps:List PK) (xs:List (aH×List Leaf)),(∀ x∈xs,eL st st' x.2)->c7 st' ps xs=c7 st ps xs /\
  ∀ (U:Upd) (O:List (aH×List Leaf)) (b:Option (Bool×Nat×Nat)),c7 st ps xs=some (U,O,b)->(∀ y∈O,eL (ac U st) (ac U st') y.2)/\(∀ f r j,b=some (f,r,j)->st' r=st r)/\∀ ls,eL st st' ls->eL (ac U st) (ac U st') ls
 |[],xs,h=>⟨rfl,λU O b z=>by
   simp only[c7,BA,BS]at z;obtain⟨rfl,rfl,rfl⟩:=z;exact⟨h,(λ_ _ _ h=>by cases h),λ_ h=>h⟩⟩
 |_::_,[],h=>⟨rfl,λU O b z=>by
   simp only[c7,BA,BS]at z;obtain⟨rfl,rfl,rfl⟩:=z;exact⟨h,(λ_ _ _ h=>by cases h),λ_ h=>h⟩⟩
 |p::ps,x::xs,h=>by
  have hx:=h x (BG ..);obtain⟨i1,i2⟩:=ox Y hE ps xs (λy M=>h y (BF _ M));simp only[c7];cases hk:p.nest x.2 with
  |none =>
   simp only[i1,true_and];intro U O b z;simp only[BI]at z;obtain⟨u,X,z⟩:=z;simp only[BS]at z;obtain⟨rfl,rfl,rfl⟩:=z;obtain⟨j1,j2,j3⟩:=i2 u.1 u.2.1 u.2.2 X;refine⟨λy M=>?_,j2,j3⟩;rcases BO.1 M with rfl|M
   ·exact j3 _ hx
   ·exact j1 y M
  |some k =>
   obtain⟨l,Z,a1⟩:=rv hk;have hg:x.2.getD k .dead=l:=by rw[BP,Z];rfl
   have a0:∀ q∈aw [l],st' q=st q:=λq J=>hx.d1 q (fD (qH Z q J))
   simp only[hg,qa Y hE a0,true_and];intro U O b z;simp only[BI]at z;obtain⟨u,X,z⟩:=z;simp only[BS]at z;obtain⟨rfl,rfl,rfl⟩:=z;obtain⟨n,e1,I⟩:=ou (U:=u.1) (l':=u.2) X;have H:=uv (U:=u.1) (l':=u.2) X;refine⟨λy M=>?_,λf r j hb=>?_,λls a2=>o8 Y I H a2 (λq J=>.inl J)⟩
   ·rcases BO.1 M with rfl|M
    ·refine o8 Y I H hx λq J=>?_
     have J:q∈az (aR x.2 k u.2):=J;rw[e1]at J;exact qc J
    ·exact o8 Y I H (h y (BF _ M)) (λq J=>.inl J)
   ·simp only[BA,BS]at hb;have hr:r=(jY l).1:=by rw[hb.2]
    rw[hr];refine a0 _ ?_;cases l with
    |nal p ks ep a3 E e xs =>
     cases ks with
     |nil =>
      exfalso;simp only[cn]at X;cases hv:br st [] ep <;> simp[hv]at X
     |cons k ks=>rw[ip];simp[jY]
    |_=>simp[jk]at a1
theorem yZ {b:Option (Bool×Nat×Nat)}{U:Upd}(u:st' TMP=st TMP)(y:st' EPO=st EPO)(z:∀ f r j,b=some (f,r,j)->st' r=st r):jM st' b U κ=jM st b U κ:=by
 unfold jM;split
 ·rename_i r j;rw[bk (z true r j rfl),bk u,bk y]
 ·rfl
theorem tJ {d:Nat}{f:FuncId}{xs:List (aH×List Leaf)}(hT:st' TMP=st TMP)(X:st' EPO=st EPO)(hx:∀ x∈xs,eL st st' x.2)(hd:st' d=st d)(hB:st' (B0+d)=st (B0+d)):jl Γ st' d f xs κ=jl Γ st d f xs κ:=by
 unfold jl;split
 ·rename_i c hc;obtain⟨n1,n2⟩:=ox hT X c.ps xs hx;rw[gz,gz,n1];cases hn:c7 st c.ps xs with
  |none=>rfl
  |some u =>
   obtain⟨H,M,b⟩:=u;obtain⟨m1,m2,_⟩:=n2 H M b hn;simp only[CB];have hg:=kr (st:=ac H st) (st':=ac H st') (ga:=cf Γ (ac H st)) (ga':=cf Γ (ac H st')) c.ps M (λx I pk=>wq (m1 x I));simp only[oD,hg.1];split
   ·rename_i g a0;obtain⟨h1,h2⟩:=hg.2 g a0;have J:gF st' d c.rs=gF st d c.rs:=by
     unfold gF;split
     ·rw[hB]
     ·rfl
    have hL:∀ q,ac H st' q=ac H st q->∀ U,ac (U++H) st' q=ac (U++H) st q:=λq h U=>by rw[bB,bB];exact bk h U
    have a3:(bif c.fresh then [] else aE (ac H st') g.frz)=(bif c.fresh then [] else aE (ac H st) g.frz):=by rw[j9 h1]
    have hk:∀ (U:Upd),aM (ac U (ac H st')) g.kill=aM (ac U (ac H st)) g.kill:=λU=>iq (λz Z=>bk (h2 z Z) U)
    have ho:∀ (U:Upd) (p:Bool) (y:ah c.ps),aG (ac (U++H) st') p c.ps M y=aG (ac (U++H) st) p c.ps M y:=λU p y =>
     qb c.ps M y (hL _ (bk X H) U) (λx I q hq=>hL _ ((m1 x I).d1 q hq) U)
    have O:∀ (U:Upd),(g.frz.map λk=>(k.1,k.2,(ac (U++H) st' k.1).ver))=g.frz.map λk=>(k.1,k.2,(ac (U++H) st k.1).ver):=λU=>Cj λz Z=>by rw[hL _ (h1 z Z) U]
    have Y:∀ U,ac U st' d=ac U st d:=λU=>bk hd U
    have a2:∀ U,ac U st' (B0+d)=ac U st (B0+d):=λU=>bk hB U
    have a1:∀ U,ac U st' EPO=ac U st EPO:=λU=>bk X U
    simp only[J,a3,hk,ho,Y,a2,a1,<- B3,O,yZ hT X m2]
   ·rfl
 ·rfl
theorem rH:∀ (u:List Ty) (xs:List (aH×List Leaf)),(∀ x∈xs,∀ q∈aw x.2,st' q=st q)->iJ st' u xs=iJ st u xs
 |[],[],_=>rfl
 |[],_::_,_=>rfl
 |_::_,[],_=>rfl
 |a::u,x::xs,h=>by
  simp only[iJ,eD (h x (BG ..)),rH u xs (λy z=>h y (BF _ z))]
theorem wt {r j i off n:Nat}{p:Bool}{E:TypeId}{e:Ty}{xs:List e.den}{h:Option (Nat×Nat)}{ls:List Leaf}(M:st' r=st r)(J:st' EPO=st EPO)(y:∀ q∈aw ls,st' q=st q):gG st' r j i off n p E e xs h ls κ=gG st r j i off n p E e xs h ls κ:=by
 unfold gG;congr 1;funext u;rw[oZ e 0 u ls y];split
 ·rename_i t X;obtain⟨Z,I⟩:=o6 e 0 u ls t X;have Y:aE st' t.frz=aE st t.frz:=j9 (λz H=>y _ (Z z H));have O:∀ U:Upd,aM (ac U st') t.kill=aM (ac U st) t.kill:=λU=>iq (λz H=>bk (y _ (I z H)) U)
  simp only[Y,O,M,bk J]
 ·rfl
end
section
variable {P:Program} {V:Env} {Γ:List Ctr} {T:TypeId->TI} {st st':St} {o:Oper} {R:Type} {κ:Upd->Option R} {r:R}
theorem dz {H:List Nat}(h:∀ q∈H++H.flatMap (λt=>aw (st t).ls),st' q=st q){x:Operand}(z:∀ t,x=.tmp t->t∈H):(∀ t,x=.tmp t->st' t=st t)/\∀ q∈aw (au st x).2,st' q=st q:=by
 refine⟨λt y=>h t (BD _ (z t y)),λq u=>?_⟩;obtain⟨t,y,u⟩:=rD u;rcases u with rfl|u
 ·exact h q (BD _ (z q y))
 ·exact h q (BE _ (BT.2 ⟨t,z t y,u⟩))
theorem nr {H:List Nat}(h:∀ q∈H++H.flatMap (λt=>az (st t).ls),st' q=st q){x:Operand}(z:∀ t,x=.tmp t->t∈H):(∀ t,x=.tmp t->st' t=st t)/\∀ q∈az (au st x).2,st' q=st q:=by
 refine⟨λt y=>h t (BD _ (z t y)),λq u=>?_⟩;obtain⟨t,y,u⟩:=rE u;rcases u with rfl|u
 ·exact h q (BD _ (z q y))
 ·exact h q (BE _ (BT.2 ⟨t,z t y,u⟩))
theorem qd {y:List Nat}(h:∀ q∈kv st y,st' q=st q){x:Operand}(O:∀ t,x=.tmp t->t∈y):eL st st' (au st x).2:=by
 have M:∀ q,q∈y->st' q=st q:=λq u=>h q (by simp[kv];exact .inl u)
 have X:∀ q,q∈y.flatMap (λt=>az (st t).ls)->st' q=st q:=λq u=>h q (by
  unfold kv;exact BD _ (BD _ (BE _ u)))
 have Y:∀ q,q∈(y.flatMap (λt=>az (st t).ls)).flatMap (λt=>az (st t).ls)->st' q=st q:=λq u=>h q (by
  unfold kv;exact BD _ (BE _ u))
 have hc:∀ q,q∈((y.flatMap (λt=>az (st t).ls)).flatMap (λt=>az (st t).ls)).flatMap (λt=>az (st t).ls)->st' q=st q:=λq u=>h q (by
  unfold kv;exact BE _ u)
 have l1:∀ r∈az (au st x).2,r∈y\/r∈y.flatMap (λt=>az (st t).ls):=by
  intro r z;obtain⟨t,Z,u⟩:=rE z;rcases u with rfl|u
  ·exact .inl (O r Z)
  ·exact .inr (BT.2 ⟨t,O t Z,u⟩)
 have l2:∀ r∈az (au st x).2,∀ q∈az (st r).ls,q∈y.flatMap (λt=>az (st t).ls)\/q∈(y.flatMap (λt=>az (st t).ls)).flatMap (λt=>az (st t).ls):=by
  intro r z q u;rcases l1 r z with H|H
  ·exact .inl (BT.2 ⟨r,H,u⟩)
  ·exact .inr (BT.2 ⟨r,H,u⟩)
 refine⟨λq u=>(l1 q u).elim (M q) (X q),λr z q u=>(l2 r z q u).elim (X q) (Y q),λr z J I q u=>?_⟩;rcases l2 r z J I with H|H
 ·exact Y q (BT.2 ⟨J,H,u⟩)
 ·exact hc q (BT.2 ⟨J,H,u⟩)
theorem be {xs:Array Operand}{x:Operand}(h:x∈xs):∀ t,x=.tmp t->t∈iu xs.toList:=λt e=>rB (by rw[<- e];simpa using h)
theorem op_fr (h:∀ q∈fj st o,st' q=st q)(z:∀ x,o.op≠.move x)(H:∀ t x i,o.op≠.indexAddr t x i):∀ q∈cq st o.op,st' q=st q:=λq y=>h q (by
 unfold fj;refine BD _ ?_;cases u:o.op with
 |move x=>exact absurd u (z x)
 |indexAddr t x i=>exact absurd u (H t x i)
 |_=>rw[u]at y;exact y)
theorem Ap {α β:Type}{xs:List α}{n:Int}{K:Option β}:((idx xs n).bind λ_=>K)=if 0<=n/\n<xs.length then K else none:=by
 unfold idx;by_cases u:n<0
 ·rw[if_pos u,if_neg (by omega)];rfl
 ·rw[if_neg u];by_cases y:n.toNat<xs.length
  ·rw[BR y,if_pos (by omega)];rfl
  ·rw[Cd (by omega),if_neg (by omega)];rfl
theorem Bl (h:∀ q∈fj st o,st' q=st q)(hh:∀ q∈eS st o.op,bL (st' q)=bL (st q)):act Γ T o st' κ=act Γ T o st κ:=by
 have M:=op_fr h;have a0:∀ (U:Upd) (d:Nat) (sh:aH) (ls:List Leaf),o.dst=some d->cm st' U d sh ls=cm st U d sh ls:=λU d sh ls hd=>u5 (tG hd h).1
 have hB:∀ d,o.dst=some d->st' (B0+d)=st (B0+d):=λd hd=>(tG hd h).2
 have hw:∀ (sh:aH) (ls:List Leaf),wrU o st' κ sh ls=wrU o st κ sh ls:=by
  intro sh ls;unfold wrU;split
  ·rename_i d hd;rw[a0 _ _ _ _ hd]
  ·rfl
 cases I:o.op with
 |move x =>
  simp only[I,eS]at hh;have e:au st' x=au st x:=xS λt Y=>hh t (be (by simp[Op.operands]) t Y)
  simp only[act,I,e,hw]
 |assign x =>
  have H:=M (by simp[I]) (by simp[I]);simp only[I,cq]at H;have J:=dz H (x:=x) (be (by simp[Op.operands]));have e:au st' x=au st x:=dU J.1;simp only[act,I,e,qJ J.2,oY J.2,tD J.2];split
  ·rename_i d hd;rw[a0 _ _ _ _ hd]
  ·rfl
 |pick c x y =>
  have H:=M (by simp[I]) (by simp[I]);simp only[I,cq]at H;have e1:one st' c=one st c:=dH λt Y=>H t (be (by simp[Op.operands]) t Y)
  have e2:au st' x=au st x:=dU λt Y=>H t (be (by simp[Op.operands]) t Y)
  have e3:au st' y=au st y:=dU λt Y=>H t (be (by simp[Op.operands]) t Y)
  simp only[act,I,e1,e2,e3,hw]
 |alloc t =>
  simp only[act,I];split
  ·rename_i d hd;rw[a0 _ _ _ _ hd,hB d hd]
  ·rfl
 |box t x =>
  have H:=M (by simp[I]) (by simp[I]);simp only[I,cq]at H;have J:=dz H (x:=x) (be (by simp[Op.operands]));have e:au st' x=au st x:=dU J.1;have a9:si st' x=si st x:=by cases x <;> first|rfl|(simp only[si];rw[J.1 _ rfl])
  simp only[act,I,e,qJ J.2,oY J.2,tD J.2,a9];split
  ·rename_i d hd;simp only[a0 _ _ _ _ hd,hB d hd,bk (hB d hd)]
  ·rfl
 |build t a2 =>
  have H:=M (by simp[I]) (by simp[I]);simp only[I,cq]at H;have hb:∀ a5 ls,fh st' a5 a2.toList ls=fh st a5 a2.toList ls:=λa5 ls=>p9 _ _ (λx J t Y=>H t (be (by simp only[Op.operands,Cv,BL];exact⟨x,J,rfl⟩) t Y))
  simp only[act,I,hw,hb]
 |buildSlice t n a2 =>
  have H:=M (by simp[I]) (by simp[I]);simp only[I,cq]at H;have J:∀ x∈a2.toList,(∀ t,x.2=.tmp t->st' t=st t)/\∀ q∈aw (au st x.2).2,st' q=st q:=λx J =>
   dz H (be (by simp only[Op.operands,Cv,BL];exact⟨x,J,rfl⟩))
  simp only[act,I];split
  ·rw[om _ _ J];split
   ·rename_i u bl;have b4:=oo _ _ _ bl;have b1:∀ z,z∈u.frz\/z∈u.kill->st' z.1=st z.1:=λz hz=>by
     obtain⟨x,bx,ba⟩:=b4 z hz;exact (J x bx).2 _ ba
    have e1:aE st' u.frz=aE st u.frz:=j9 λz hz=>b1 z (.inl hz)
    have e2:∀ U:Upd,aM (ac U st') u.kill=aM (ac U st) u.kill:=λU=>iq (λz hz=>bk (b1 z (.inr hz)) U)
    simp only[e1,e2];congr 1;split
    ·rename_i d hd;rw[a0 _ _ _ _ hd]
    ·rfl
   ·rfl
  ·rfl
 |load t x =>
  have H:=M (by simp[I]) (by simp[I]);simp only[I,cq]at H;have J:=nr H (x:=x) (be (by simp[Op.operands]));have e:one st' x=one st x:=dH J.1;have X:∀ q∈az [one st x],st' q=st q:=λq O=>J.2 q (tE O)
  simp only[act,I,e,hw];congr 1;split
  ·rfl
  ·rename_i b off Z;rw[Z]at X;rw[X b (by simp[az])]
  ·rfl
  ·rename_i p ks ep a y off Z;rw[Z]at X;rw[jA (λq O=>X q (by simpa[az]using O))]
  ·rename_i r j v i sz off Z;rw[Z]at X;rw[cl (l:=.al r j v) (λq O=>X q (by simp[aw]at O;simp[az,O])),X EPO (by simp[az])]
  ·rfl
 |store t x y =>
  have H:=M (by simp[I]) (by simp[I]);simp only[I,cq]at H;have J:=nr H (x:=x) (be (by simp[Op.operands]));have hy:=nr H (x:=y) (be (by simp[Op.operands]));have e:one st' x=one st x:=dH J.1;have e2:au st' y=au st y:=dU hy.1;have X:∀ q∈az [one st x],st' q=st q:=λq O=>J.2 q (tE O)
  have a7:∀ q∈aw (au st y).2,st' q=st q:=λq O=>hy.2 q (fD O)
  simp only[act,I,e,e2,qJ a7,oY a7,tD a7];split
  ·rfl
  ·congr 1;split
   ·rename_i b off Z;rw[Z]at X;have hb:=X b (by simp[az]);simp only[hb,bk hb]
   ·rename_i r j v i sz off Z;rw[Z]at X;have bn:=X r (by simp[az]);rw[cl (l:=.al r j v) (λq O=>X q (by simp[aw]at O;simp[az,O]))];split
    ·rw[wt bn (X EPO (by simp[az])) a7]
    ·rfl
   ·rfl
 |nilCheck x =>
  have H:=M (by simp[I]) (by simp[I]);simp only[I,cq]at H;have J:=dz H (x:=x) (be (by simp[Op.operands]));have e:one st' x=one st x:=dH J.1;have X:∀ q∈aw [one st x],st' q=st q:=λq O=>J.2 q (jh O)
  simp only[act,I,e,hw];split
  ·rfl
  ·rfl
  ·rename_i r j v i sz off Z;rw[Z]at X;rw[X r (by simp[aw])]
  ·rfl
  ·rename_i p ks ep a y off Z;rw[Z,u3]at X;rw[jA X]
  ·rfl
 |binOp op t x y t' =>
  have H:=M (by simp[I]) (by simp[I]);simp only[I,cq]at H;have J:=dz H (x:=x) (be (by simp[Op.operands]));have hy:=dz H (x:=y) (be (by simp[Op.operands]));have e1:one st' x=one st x:=dH J.1;have e2:one st' y=one st y:=dH hy.1;have e3:au st' x=au st x:=dU J.1;have e4:au st' y=au st y:=dU hy.1;simp only[act,I,e1,e2,e3,e4,hw,eD J.2,eD hy.2]
 |unOp op t x =>
  have H:=M (by simp[I]) (by simp[I]);simp only[I,cq]at H;have e1:one st' x=one st x:=dH λt Y=>H t (be (by simp[Op.operands]) t Y)
  simp only[act,I,e1,hw]
 |convert s t x =>
  have H:=M (by simp[I]) (by simp[I]);simp only[I,cq]at H;have J:=dz H (x:=x) (be (by simp[Op.operands]));have e1:one st' x=one st x:=dH J.1;have X:∀ q∈aw [one st x],st' q=st q:=λq O=>J.2 q (jh O)
  simp only[act,I,e1,hw];split
  ·rfl
  ·rw[cl X]
  ·rfl
  ·rfl
 |makeSlice t n c =>
  have H:=M (by simp[I]) (by simp[I]);simp only[I,cq]at H;have e1:one st' n=one st n:=dH λt Y=>H t (be (by simp[Op.operands]) t Y)
  have e2:one st' c=one st c:=dH λt Y=>H t (be (by simp[Op.operands]) t Y)
  simp only[act,I,e1,e2,hw]
 |slice t x lo hi mx =>
  have H:=M (by simp[I]) (by simp[I]);simp only[I,cq]at H;have hE:=H EPO (BG ..);have H:=λq O=>H q (BF _ O)
  have J:=dz H (x:=x) (be (by simp[Op.operands]));have b9:∀ n,dl st' lo n=dl st lo n:=λn=>nl λy hy t Y=>H t (BD _ (be (by simp[Op.operands,hy]) t Y))
  have bb:∀ n,dl st' hi n=dl st hi n:=λn=>nl λy hy t Y=>H t (BD _ (be (by simp[Op.operands,hy]) t Y))
  have e:one st' x=one st x:=dH J.1;have X:∀ q∈aw [one st x],st' q=st q:=λq O=>J.2 q (jh O)
  have c0:∀ m,mx=some m->dl st' (some m) 0=dl st (some m) 0:=λm hm=>nl λy hy t Y=>H t (BD _ (be (by simp[Op.operands,hm,C0 hy]) t Y))
  simp only[act,I,e,b9,bb,cl X,hE];cases hd:o.dst with
  |none=>cases mx <;> rfl
  |some d =>
   cases mx with
   |none=>simp only[a0 _ _ _ _ hd]
   |some m =>
    simp only[c0 m rfl];split
    ·rename_i r j v _ Z _;rw[Z]at X;rw[cl X,iq (st:=st) (st':=st') (λz hz=>by simp at hz;subst hz;exact X _ (by simp[aw]))];simp only[a0 _ _ _ _ hd]
    ·rfl
 |fieldAddr t x f =>
  have H:=M (by simp[I]) (by simp[I]);simp only[I,cq]at H;have J:=dz H (x:=x) (be (by simp[Op.operands]));have e:one st' x=one st x:=dH J.1;have X:∀ q∈aw [one st x],st' q=st q:=λq O=>J.2 q (jh O)
  simp only[act,I,e,hw];split
  ·split
   ·split
    ·rfl
    ·rfl
    ·rename_i r j v i sz off Z;rw[Z]at X;rw[X r (by simp[aw])]
    ·rename_i p ks ep a y o' Z;rw[Z,u3]at X;rw[jA X]
    ·rfl
   ·rfl
  ·rfl
 |field t x f =>
  have H:=M (by simp[I]) (by simp[I]);simp only[I,cq]at H;have e1:au st' x=au st x:=dU λt Y=>H t (be (by simp[Op.operands]) t Y)
  simp only[act,I,e1,hw]
 |indexAddr t x i =>
  simp only[I,eS]at hh;have b2:∀ y∈(Op.indexAddr t x i).operands,∀ t,y=.tmp t->bL (st' t)=bL (st t):=λy hy t Y=>hh t (BD _ (be hy t Y))
  have e:one st' x=one st x:=zt (b2 x (by simp[Op.operands]));have e2:one st' i=one st i:=zt (b2 i (by simp[Op.operands]));have X:∀ q∈aw [one st x],bL (st' q)=bL (st q):=λq O=>by
   obtain⟨t',b5,O⟩:=rD (jh O);have a6:=be (xs:=(Op.indexAddr t x i).operands) (x:=x) (by simp[Op.operands]) t' b5;rcases O with rfl|O
   ·exact hh q (BD _ a6)
   ·exact hh q (BE _ (BT.2 ⟨t',a6,O⟩))
  simp only[act,I,e,e2,hw];split
  ·split
   ·rfl
   ·split
    ·rename_i r j v Z;rw[Z]at X;have O:=X r (by simp[aw]);have hv:(st' r).ver=(st r).ver:=by simp only[bL,BS]at O;exact O.1
     simp only[aD,hv];cases BJ (st r).ver v with
     |false=>rfl
     |true =>
      simp only[cond_true];rcases tF (xT O j) with e3|⟨p,p',h1,h2,E1,E2,e',c2,xs,c1,e3,e4,e5,e6⟩
      ·rw[e3]
      ·rw[e3,e4];simp only[pf,e5,Ap,e6]
    ·rfl
    ·rename_i p ks ep c3 E' e' xs Z;rw[Z,ip]at X;rw[yY X]
    ·rfl
   ·rfl
  ·rfl
 |index t x i =>
  have H:=M (by simp[I]) (by simp[I]);simp only[I,cq]at H;have J:=dz H (x:=x) (be (by simp[Op.operands]));have e1:one st' x=one st x:=dH J.1;have e2:one st' i=one st i:=dH (dz H (x:=i) (be (by simp[Op.operands]))).1;have e3:au st' x=au st x:=dU J.1;simp only[act,I,e1,e2,e3,hw,λe n=>ni (e:=e) n _ J.2]
 |extract x i =>
  have H:=M (by simp[I]) (by simp[I]);simp only[I,cq]at H;have e1:au st' x=au st x:=dU λt Y=>H t (be (by simp[Op.operands]) t Y)
  simp only[act,I,e1,hw]
 |makeFunc fn first a3 =>
  have H:=M (by simp[I]) (by simp[I]);simp only[I,cq]at H;cases fn with
  |func f =>
   have:sk st' a3.toList=sk st a3.toList:=u6 (st:=st) (st':=st') a3.toList (some []) (λx J t Y=>H t (be (by simp[Op.operands];exact .inr (by simpa using J)) t Y));simp only[act,I,hw,this]
  |_=>simp only[act,I]
 |call c =>
  have H:=M (by simp[I]) (by simp[I]);simp only[I,cq]at H;simp only[act,I];split
  ·rfl
  ·rename_i d hd;obtain⟨ad,b0⟩:=tG hd h;cases hc:c.callee with
   |value f =>
    simp only[hc]at H;have hT:=H TMP (BG ..);have hE:=H EPO (BF _ (BG ..));have H:=λq O=>H q (BF _ (BF _ O))
    have b3:f∈(Op.call c).operands:=by simp[Op.operands,Call.operands,hc]
    have a8:∀ x∈c.args.toList,x∈(Op.call c).operands:=λx J=>by
     simp only[Op.operands,Call.operands,hc,Cw];exact .inr (by simpa using J)
    have a6:∀ x∈(Op.call c).operands,∀ t,x=.tmp t->st' t=st t:=λx J t Y=>H t (by
     unfold kv;exact BD _ (BD _ (BD _ (be J t Y))))
    have e1:one st' f=one st f:=dH (a6 f b3);have e2:c.args.toList.map (au st')=c.args.toList.map (au st):=Cj λx J=>dU (a6 x (a8 x J))
    have a4:∀ x∈c.args.toList.map (au st),eL st st' x.2:=by
     intro x J;obtain⟨y,hy,rfl⟩:=BL.1 J;exact qd H (be (a8 y hy))
    simp only[e1,e2];split
    ·rename_i g a3 Z;refine tJ hT hE ?_ ad b0;intro x J;rcases BB.1 J with J|J
     ·exact a4 x J
     ·obtain⟨b,hb,rfl⟩:=BL.1 J;have hf:=qd H (be b3);rw[qK Z (by simp)]at hf;exact o7 hf _ (BL.2 ⟨b,hb,rfl⟩)
    ·rename_i g a3 Z;refine tJ hT hE ?_ ad b0;intro x J;rcases BB.1 J with J|J
     ·exact a4 x J
     ·obtain⟨cp,b6,rfl⟩:=BL.1 J;exact nq _ (BL.2 ⟨cp,b6,rfl⟩)
    ·rename_i As B φ Z;rw[rH As _ (λx J q O=>(a4 x J).d1 q (fD O))];simp only[hw]
    ·rfl
   |builtin b =>
    simp only[hc]at H;have hT:=H TMP (BG ..);have H:=λq O=>H q (BF _ O)
    have a8:∀ x∈c.args.toList,x∈(Op.call c).operands:=λx J=>by
     simp only[Op.operands,Call.operands,hc,Cw];exact .inr (by simpa using J)
    have J:∀ x∈c.args.toList,one st' x=one st x/\∀ q∈aw [one st x],st' q=st q:=λx J=>by
     have:=dz H (be (a8 x J));exact⟨dH this.1,λq O=>this.2 q (jh O)⟩
    cases b with
    |len =>
     dsimp only;split
     ·rename_i x a1;have h1:=J x (by rw[a1];simp);simp only[h1.1,cl h1.2,hw]
     ·rfl
    |append =>
     dsimp only;split
     ·rename_i x y t u a1 _;have h1:=J x (by rw[a1];simp);have h2:=J y (by rw[a1];simp);split
      ·rw[h1.1,h2.1,wo hT h1.2 h2.2 ad]
      ·rfl
     ·rfl
    |min =>
     dsimp only;split
     ·rename_i x y a1;rw[(J x (by rw[a1];simp)).1,(J y (by rw[a1];simp)).1];simp only[hw]
     ·rfl
    |max =>
     dsimp only;split
     ·rename_i x y a1;rw[(J x (by rw[a1];simp)).1,(J y (by rw[a1];simp)).1];simp only[hw]
     ·rfl
    |_=>rfl
   |invoke x n=>rfl
 |_=>simp only[act,I]
end
section
variable {P:Program} {V:Env} {Γ:List Ctr} {T:TypeId->TI} {st st':St} {o:Oper} {R:Type} {all:Array Oper}
def mq (Γ:List Ctr)(T:TypeId->TI)(all:Array Oper)(o:Oper)(st:St)(U:Upd):Prop :=
 match o.guard with
 |none=>act Γ T o st some=some U
 |some (j,r)=>∃ t,(all[j]?).bind (·.dst)=some t /\
  ((∃ b,(st t).sh=.one/\(st t).ls=[.bool b]/\((b=r/\act Γ T o st some=some U)\/(b≠r/\U=eF st o)))\/((st t).sh=.und/\U=eF st o))
def jB (Γ:List Ctr)(T:TypeId->TI)(all:Array Oper)(o:Oper)(st:St)(U:Upd)(t:cP):Prop :=
 ((∀ q∈U.map (·.1),q∈t.wr\/q∈t.cw)/\(∀ q∈t.wr,q∈U.map (·.1))/\∀ q,q∈U.map (·.1)->q∉t.wr->bL (ac U st q)=bL (st q))/\match o.guard with
 |none=>act Γ T o st some=some U/\(∀ q∈fj st o,q∈t.rd)/\∀ q∈eS st o.op,q∈t.hd
 |some (j,r)=>∃ s,(all[j]?).bind (·.dst)=some s/\s∈t.rd /\
  ((∃ b,(st s).sh=.one/\(st s).ls=[.bool b]/\((b=r/\act Γ T o st some=some U/\(∀ q∈fj st o,q∈t.rd)/\∀ q∈eS st o.op,q∈t.hd)\/(b≠r/\U=eF st o/\∀ d,o.dst=some d->d∈t.wr))) \/
   ((st s).sh=.und/\U=eF st o/\∀ d,o.dst=some d->d∈t.wr))
theorem tK {α:Type}:∀ {l:List α} {j:Nat} {x:α},l[j]?=some x->l.set j x=l
 |[],_,_,h=>by simp at h
 |y::l,0,x,h=>by simp at h;subst h;rfl
 |y::l,j+1,x,h=>by rw[Cp,tK (by simpa using h)]
theorem Aq {U:Upd}(h:act Γ T o st some=some U):∀ q∈d4 st o,bL (ac U st q)=bL (st q):=by
  intro q z;unfold d4 at z;split at z
  · rename_i t x y J
    split at z
    · rename_i r j a0 i sz off hx
      simp only[B6]at z;subst z;simp only[act,wrU,J]at h;split at h
      · cases h
      · cases Y:BJ (au st y).2.length (T t).cells&&decide ((au st y).1=bh (T t).agg)&&!decide ((T t).cells=0) with
        |false=>simp[Y]at h
        |true =>
          simp only[Y,cond_true,hx]at h;split at h
          · rename_i p hh E e xs hd
            cases M:BJ sz e.cells&&decide (off+(au st y).2.length<=e.cells)&&rY q with
            |false=>simp[M]at h
            |true =>
              simp only[M,cond_true]at h;obtain⟨_,hl⟩:=eZ hd (by simp);have u:∀ (p':Bool) (H:Option (Nat×Nat)) (v:e.den) (X:Upd),bL (ac ((q,⟨(st q).ver,(st q).sh,aR (st q).ls j (.own p' H E e (xs.set i v))⟩)::X) st q)=bL (st q):=by
                intro p' H v X;rw[aO,bj];simp only[bL,aR];rw[List.map_set,tK];rw[Cs,hl];simp[jp]
              unfold gG at h;obtain⟨a1,_,h⟩:=B4.1 h;split at h
              · rename_i t _
                cases I:t.rest.isEmpty&&aY t.kill&&dG t.frz t.kill&&!((t.kill++t.frz).any λk=>BJ k.1 q) with
                |false=>rw[I]at h;cases h
                |true =>
                  simp only[I,cond_true]at h;cases hh with
                  |none =>
                    simp only[BA]at h;rw[<- h];exact u _ _ _ _
                  |some hp =>
                    obtain⟨hi,ho⟩:=hp;simp only at h;cases Z:Ci off ho&&Cb ho (off+(au st y).2.length) with
                    |false =>
                      rw[Z]at h;simp only[cond_false,BA]at h;rw[<- h];exact u _ _ _ _
                    |true =>
                      rw[Z]at h;simp only[cond_true]at h;cases O:BJ i hi with
                      |false=>rw[O]at h;cases h
                      |true =>
                        rw[O]at h;simp only[cond_true,BA]at h;rw[<- h];exact u _ _ _ _
              · cases h
          · cases h
    · simp at z
  · simp at z
theorem o9 {t:Nat}{b:Bool}(r:(st t).sh=.one)(u:(st t).ls=[.bool b]):lit st t b=st:=by
 funext q;unfold lit;rcases aj t q ⟨(st t).ver,.one,[.bool b]⟩ st with ⟨rfl,e⟩|⟨_,e⟩
 ·rw[e,<- r,<- u]
 ·exact e
theorem wu {U:Upd}(h:act Γ T o st some=some U):(∀ q∈U.map (·.1),q∈(U.map (·.1)).filter (λq=>!((d4 st o).any (BJ q)))\/q∈d4 st o)/\(∀ q∈(U.map (·.1)).filter (λq=>!((d4 st o).any (BJ q))),q∈U.map (·.1)) /\
  ∀ q,q∈U.map (·.1)->q∉(U.map (·.1)).filter (λq=>!((d4 st o).any (BJ q)))->bL (ac U st q)=bL (st q):=by
 have r:∀ q,(d4 st o).any (BJ q)=true->q∈d4 st o:=λq u=>by
  obtain⟨x,z,I⟩:=CM.1 u;rw[BH I];exact z
 refine⟨λq u=>?_,λq u=>(CH.1 u).1,λq u H=>?_⟩
 ·cases y:(d4 st o).any (BJ q) with
  |true=>exact .inr (r q y)
  |false=>exact .inl (CH.2 ⟨u,by rw[y];rfl⟩)
 ·refine Aq h q (r q ?_);cases y:(d4 st o).any (BJ q) with
  |true=>rfl
  |false=>exact absurd (CH.2 ⟨u,by rw[y];rfl⟩) H
theorem Ar {κ:St->cP->Option R}{r:R}(h:opK Γ T all o st κ=some r):∃ U t,jB Γ T all o st U t/\κ (ac U st) t=some r:=by
 have Y:∀ (J:List Nat),act Γ T o st (λU=>κ (ac U st) ⟨J++fj st o,eS st o.op,(U.map (·.1)).filter (λq=>!((d4 st o).any (BJ q))),d4 st o⟩)=some r ->
   ∃ U,act Γ T o st some=some U/\κ (ac U st) ⟨J++fj st o,eS st o.op,(U.map (·.1)).filter (λq=>!((d4 st o).any (BJ q))),d4 st o⟩=some r:=by
  intro J h;rw[tC]at h;obtain⟨U,M,X⟩:=B4.1 h;exact⟨U,M,X⟩
 have u:((∀ q∈(eF st o).map (·.1),q∈o.dst.toList\/q∈([]:List Nat))/\(∀ q∈o.dst.toList,q∈(eF st o).map (·.1))/\∀ q,q∈(eF st o).map (·.1)->q∉o.dst.toList->bL (ac (eF st o) st q)=bL (st q)):=by
  unfold eF;cases o.dst with
  |none=>simp
  |some d=>simp
 unfold opK at h;unfold jB;cases hg:o.guard with
 |none =>
  simp only[hg]at h;obtain⟨U,M,X⟩:=Y [] h;exact⟨U,_,⟨wu M,M,λq I=>by simpa using I,λq I=>I⟩,X⟩
 |some jw =>
  obtain⟨j,O⟩:=jw;simp only[hg]at h;split at h
  ·rename_i t Z;have H:∀ d,o.dst=some d->d∈o.dst.toList:=λd hd=>by simp[hd]
   split at h
   ·rename_i b y z;have hl:∀ b',b'=b->lit st t b'=st:=λb' e=>o9 y (by rw[z,e])
    cases b with
    |true =>
     simp only[cond_true,hl true rfl]at h;cases O with
     |true =>
      simp only[cond_true]at h;obtain⟨U,M,X⟩:=Y [t] h;exact⟨U,_,⟨wu M,t,Z,by simp,.inl ⟨true,y,z,.inl ⟨rfl,M,λq I=>BE _ I,λq I=>I⟩⟩⟩,X⟩
     |false =>
      simp only[cond_false]at h;exact⟨eF st o,_,⟨u,t,Z,by simp,.inl ⟨true,y,z,.inr ⟨by simp,rfl,H⟩⟩⟩,h⟩
    |false =>
     simp only[cond_false,hl false rfl]at h;cases O with
     |true =>
      simp only[cond_true]at h;exact⟨eF st o,_,⟨u,t,Z,by simp,.inl ⟨false,y,z,.inr ⟨by simp,rfl,H⟩⟩⟩,h⟩
     |false =>
      simp only[cond_false]at h;obtain⟨U,M,X⟩:=Y [t] h;exact⟨U,_,⟨wu M,t,Z,by simp,.inl ⟨false,y,z,.inl ⟨rfl,M,λq I=>BE _ I,λq I=>I⟩⟩⟩,X⟩
   ·rename_i y;exact⟨eF st o,_,⟨u,t,Z,by simp,.inr ⟨y,rfl,H⟩⟩,h⟩
   ·cases h
  ·cases h
theorem u7 {U:Upd}(e:U=eF st o)(u:∀ d,o.dst=some d->st' d=st d):U=eF st' o:=by
 rw[e];unfold eF;cases r:o.dst with
 |none=>rfl
 |some d=>simp only[u d r]
theorem jB.frame {U:Upd}{t:cP}(h:jB Γ T all o st U t)(u:∀ q,q∈t.rd\/q∈t.wr->st' q=st q)(hh:∀ q∈t.hd,bL (st' q)=bL (st q)):mq Γ T all o st' U:=by
 obtain⟨_,h⟩:=h;have r:act Γ T o st some=some U->(∀ q∈fj st o,q∈t.rd)->(∀ q∈eS st o.op,q∈t.hd)->act Γ T o st' some=some U:=by
  intro Y H J;rw[Bl (λq X=>u q (.inl (H q X))) (λq X=>hh q (J q X))];exact Y
 unfold mq;cases hg:o.guard with
 |none =>
  rw[hg]at h;exact r h.1 h.2.1 h.2.2
 |some jw =>
  obtain⟨j,a1⟩:=jw;rw[hg]at h;obtain⟨s,Y,H,J⟩:=h;have a0:=u s (.inl H);refine⟨s,Y,?_⟩;rw[a0];rcases J with ⟨b,h4,z,M⟩|⟨h4,z,M⟩
  ·refine .inl ⟨b,h4,z,?_⟩;rcases M with ⟨h7,Z,I,y⟩|⟨h7,Z,I⟩
   ·exact .inl ⟨h7,r Z I y⟩
   ·exact .inr ⟨h7,u7 Z (λd O=>u d (.inr (I d O)))⟩
  ·exact .inr ⟨h4,u7 z (λd O=>u d (.inr (M d O)))⟩
theorem wv (hV:ay V)(hT:TOk P T)(hΓ:∀ c∈Γ,bQ P c){ops:Array Oper}{i:Nat}(hi:ops[i]?=some o)(M:bO V o)(H:∀ j u,o.guard=some (j,u)->∀ s,(ops[j]?).bind (·.dst)=some s->s<V.nt)
  {U:Upd} (h:mq Γ T ops o st U) {a:Act} {w:World} (z:Rel P V st a w) {K:Act->World->Prop} {Q:Exit->Act->World->Prop} (hK:∀ a' w',Rel P V (ac U st) a' w'->K a' w'):wpOp P ops Q i K a w:=by
 obtain⟨W,z⟩:=z;unfold wpOp;simp only[hi];have Z:act Γ T o st some=some U->o.wp P a w K Q:=by
  intro h1;obtain⟨U',h2,Y⟩:=Bk hV hT hΓ M h1;cases h2;exact Y W a w z K Q hK
 have y:U=eF st o->K (a.put o.dst undef) w:=by
  intro e;refine hK _ _ ?_;subst e;unfold eF;cases hd:o.dst with
  |none=>exact⟨W,z⟩
  |some d=>exact z.putLs hV d (M d hd).1 (M d hd).2 _ .und [] undef [] (CF _) ⟨rfl,rfl⟩ trivial
 unfold mq at h;cases O:o.guard with
 |none =>
  rw[O]at h;have J:Region.wanted o (yielded ops a.tmps)=true:=by simp[Region.wanted,O]
  rw[if_pos J];exact .inl (Z h)
 |some jw =>
  obtain⟨j,u⟩:=jw;rw[O]at h;obtain⟨s,h1,h2⟩:=h;have a0:=H j u O s h1;have a2:s<GH:=Cq a0 hV.nt;have r:=z.slots s a2;have a1:s<a.tmps.size:=by rw[z.nt];exact a0
  have I:a.tmps[s]?=some (a.tmps.getD s undef):=by
   rw[BN,BM a1];rfl
  rcases h2 with ⟨b,Y,h4,h5⟩|⟨Y,h5⟩
  ·have X:=z.len s;rw[h4]at X;rw[Y]at r;have r:W.cs s=[a.tmps.getD s undef]:=r;have hv:=z.leaf s 0 (.bool b) (a.tmps.getD s undef) (by rw[h4];rfl) (by rw[r];rfl);have hv:a.tmps.getD s undef=.bool b:=hv;have hy:yielded ops a.tmps j=some b:=by simp[yielded,h1,I,hv]
   rcases h5 with ⟨rfl,h6⟩|⟨h6,h7⟩
   ·have J:Region.wanted o (yielded ops a.tmps)=true:=by simp[Region.wanted,O,hy]
    rw[if_pos J];exact .inl (Z h6)
   ·have J:Region.wanted o (yielded ops a.tmps)=false:=by
     simp only[Region.wanted,O,hy];cases b <;> cases u <;> simp at h6 <;> rfl
    rw[J];exact y h7
  ·rw[Y]at r;obtain⟨hv,_⟩:=r;have hy:yielded ops a.tmps j=none:=by
    unfold yielded;rw[h1,CB,I,hv];rfl
   have J:Region.wanted o (yielded ops a.tmps)=false:=by simp[Region.wanted,O,hy]
   rw[J];exact y h5
def Run (Γ:List Ctr)(T:TypeId->TI)(all:Array Oper):St->List Oper->List Upd->List cP->St->Prop
 |st,[],[],[],st'=>st'=st
 |st,o::y,U::r,t::u,st'=>jB Γ T all o st U t/\Run Γ T all (ac U st) y r u st'
 |_,_,_,_,_=>False
theorem pa:∀ (H:List Oper) (st:St) (z:List cP) (y:St->List cP->Option R) (r:R),qi Γ T all H st z y=some r ->
  ∃ I u st',Run Γ T all st H I u st'/\y st' (z++u)=some r
 |[],st,z,y,r,h=>⟨[],[],st,rfl,by simpa[qi]using h⟩
 |o::H,st,z,y,r,h=>by
  simp only[qi]at h;obtain⟨U,t,M,O⟩:=Ar h;obtain⟨I,u,st',X,J⟩:=pa H (ac U st) (z++[t]) y r O;exact⟨U::I,t::u,st',⟨M,X⟩,by rw[B3]at J;exact J⟩
theorem jB.res {U:Upd}{t:cP}(h:jB Γ T all o st U t):mq Γ T all o st U:=h.frame (λ_ _=>rfl) (λ_ _=>rfl)
theorem u9 (Z:ay V)(X:TOk P T)(hΓ:∀ c∈Γ,bQ P c){ops:Array Oper}(z:∀ (i:Nat) (o:Oper),ops[i]?=some o->bO V o)
  (r:∀ (i:Nat) (o:Oper),ops[i]?=some o->∀ j y,o.guard=some (j,y)->∀ s,(ops[j]?).bind (·.dst)=some s->s<V.nt) {Q:Exit->Act->World->Prop} :
  ∀ (u:List Oper) (k:Nat) (st:St) (us:List Upd) (J:List cP) (st':St),ops.toList.drop k=u->Run Γ T ops st u us J st'->(∀ a w,Rel P V st' a w->Q .normal a w) ->
   ∀ a w,Rel P V st a w->wpOps P ops Q (List.range' k u.length) a w
 |[],k,st,[],[],st',_,h,I,a,w,M=>by
  have h:st'=st:=h;subst h;exact I a w M
 |o::u,k,st,U::us,t::J,st',Y,h,I,a,w,M=>by
  obtain⟨h1,h2⟩:=h;have H:ops[k]?=some o:=by
   have:(ops.toList.drop k)[0]?=some o:=by rw[Y];rfl
   rw[List.getElem?_drop]at this;simpa using this
  rw[CC,List.range'_succ,wpOps_cons];refine wv Z X hΓ H (z k o H) (r k o H) h1.res M (λa' w' O=>?_);exact u9 Z X hΓ z r u (k+1) (ac U st) us J st' (by rw[<- Cf,Y];rfl) h2 I a' w' O
end
section
variable {P:Program} {V:Env} {Γ:List Ctr} {T:TypeId->TI} {st st':St} {o:Oper} {R:Type} {all:Array Oper}
def dj (D:Nat->Bool):List Upd->St->St
 |[],st=>st
 |U::r,st=>dj (λj=>D (j+1)) r (bif D 0 then ac U st else st)
theorem ji {q:Nat}:∀ {U:Upd} (s u:St),q∈U.map (·.1)->ac U s q=ac U u q
 |[],_,_,h=>by simp at h
 |(r,c)::U,s,u,h=>by
  simp only[ac];cases y:BJ q r with
  |true=>rfl
  |false =>
   simp only[cond_false];refine ji s u ?_;simp only[BY,BO]at h;rcases h with rfl|h
   ·simp at y
   ·exact h
theorem eE {q:Nat}:∀ {U:Upd} (s:St),q∉U.map (·.1)->ac U s q=s q
 |[],_,_=>rfl
 |(r,c)::U,s,h=>by
  simp only[BY,BO,not_or]at h;have u:BJ q r=false:=by
   cases u:BJ q r with
   |false=>rfl
   |true=>exact absurd (BH u) h.1
  simp only[ac,u,cond_false];exact eE s h.2
theorem xU {U u:Upd}(h:∀ q,q∈U.map (·.1)->q∉u.map (·.1))(s:St):ac u (ac U s)=ac U (ac u s):=by
 funext q;by_cases r:q∈U.map (·.1)
 ·rw[eE _ (h q r)];exact ji _ _ r
 ·rw[eE (U:=U) _ r];by_cases y:q∈u.map (·.1)
  ·exact ji _ _ y
  ·rw[eE _ y,eE _ y,eE _ r]
theorem mr:∀ {us:List Upd} {D D':Nat->Bool} {s:St},(∀ j,j<us.length->D j=D' j)->dj D us s=dj D' us s
 |[],_,_,_,_=>rfl
 |U::us,D,D',s,h=>by
  simp only[dj];rw[h 0 (by simp)];exact mr (λj r=>h (j+1) (by simpa using r))
theorem nu:∀ {us:List Upd} {D:Nat->Bool} {s:St},(∀ j,D j=false)->dj D us s=s
 |[],_,_,_=>rfl
 |U::us,D,s,h=>by
  simp only[dj,h 0,cond_false];exact nu (λj=>h (j+1))
theorem mt {q:Nat}:∀ {us:List Upd} {D D':Nat->Bool} {s r:St},s q=r q->(∀ (j:Nat) (U:Upd),us[j]?=some U->q∈U.map (·.1)->D j=D' j)->dj D us s q=dj D' us r q
 |[],_,_,_,_,h,_=>h
 |U::us,D,D',s,r,h,H=>by
  simp only[dj];refine mt ?_ (λj I z M=>H (j+1) I (by simpa using z) M);by_cases u:q∈U.map (·.1)
  ·rw[H 0 U rfl u];cases D' 0 with
   |true=>exact ji _ _ u
   |false=>exact h
  ·have J:∀ b:Bool,(bif b then ac U s else s) q=s q:=by intro b;cases b <;> simp[eE _ u]
   have y:∀ b:Bool,(bif b then ac U r else r) q=r q:=by intro b;cases b <;> simp[eE _ u]
   rw[J,y,h]
theorem nv {U:Upd}:∀ {us:List Upd} {D:Nat->Bool} {s:St},(∀ (j:Nat) (u:Upd),us[j]?=some u->D j=true->∀ q,q∈U.map (·.1)->q∉u.map (·.1))->dj D us (ac U s)=ac U (dj D us s)
 |[],_,_,_=>rfl
 |u::us,D,s,h=>by
  simp only[dj];cases H:D 0 with
  |true =>
   simp only[cond_true];rw[xU (h 0 u rfl H)];exact nv (λj r y z=>h (j+1) r (by simpa using y) z)
  |false =>
   simp only[cond_false];exact nv (λj r y z=>h (j+1) r (by simpa using y) z)
theorem oy {U:Upd}:∀ {us:List Upd} {i:Nat} {D D':Nat->Bool} {s:St},us[i]?=some U->D i=false->(∀ j,D' j=(D j||BJ j i)) ->
  (∀ (j:Nat) (u:Upd),us[j]?=some u->i<j->D j=true->∀ q,q∈U.map (·.1)->q∉u.map (·.1))->dj D' us s=ac U (dj D us s)
 |[],i,_,_,_,h,_,_,_=>by simp at h
 |V::us,0,D,D',s,h,I,r,H=>by
  simp at h;subst h;simp only[dj];have y:D' 0=true:=by rw[r 0];simp
  rw[y,I];simp only[cond_true,cond_false];have e:dj (λj=>D' (j+1)) us (ac V s)=dj (λj=>D (j+1)) us (ac V s):=mr (λj _=>by rw[r (j+1)];simp[BJ]);rw[e];exact nv (λj u z J=>H (j+1) u (by simpa using z) (by omega) J)
 |V::us,i+1,D,D',s,h,I,r,H=>by
  simp only[dj];have y:D' 0=D 0:=by rw[r 0];simp[BJ]
  rw[y];exact oy (i:=i) (by simpa using h) I (λj=>by rw[r (j+1)];simp[BJ]) (λj u z J M=>H (j+1) u (by simpa using z) (by omega) M)
theorem qL:∀ {r:List Oper} {us:List Upd} {y:List cP} {s z:St},Run Γ T all s r us y z->∀ (i:Nat) (o:Oper),r[i]?=some o ->
  ∃ U t,us[i]?=some U/\y[i]?=some t/\jB Γ T all o (dj (λj=>decide (j<i)) us s) U t
 |[],_,_,_,_,_,i,o,h=>by simp at h
 |H::r,[],_,_,_,h,_,_,_=>h.elim
 |H::r,_::_,[],_,_,h,_,_,_=>h.elim
 |H::r,U::us,t::y,s,z,h,0,o,u=>by
  simp at u;subst u;exact⟨U,t,rfl,rfl,by rw[nu (λj=>by simp)];exact h.1⟩
 |H::r,U::us,t::y,s,z,h,i+1,o,u=>by
  obtain⟨X,I,O,J,M⟩:=qL h.2 i o (by simpa using u);refine⟨X,I,by simpa using O,by simpa using J,?_⟩;simp only[dj];have e:(λj=>decide (j+1<i+1))=λj=>decide (j<i):=by funext j;simp
  rw[e];simpa using M
theorem va:∀ {r:List Oper} {us:List Upd} {y:List cP} {s u:St},Run Γ T all s r us y u->us.length=r.length/\y.length=r.length/\u=dj (λ_=>true) us s
 |[],[],[],_,_,h=>⟨rfl,rfl,h⟩
 |[],_::_,_,_,_,h=>h.elim
 |[],[],_::_,_,_,h=>h.elim
 |_::_,[],_,_,_,h=>h.elim
 |_::_,_::_,[],_,_,h=>h.elim
 |o::r,U::us,t::y,s,u,h=>by
  obtain⟨z,H,I⟩:=va h.2;exact⟨by simp[z],by simp[H],by simpa[dj]using I⟩
theorem qM {q:Nat}:∀ {os:List Oper} {us:List Upd} {z:List cP} {J s':St} {D:Nat->Bool} {F:Nat->Bool} {s sF:St} {B:Prop},Run Γ T all J os us z s'->(∀ (j:Nat) (t:cP),z[j]?=some t->F j=decide (q∈t.wr)) ->
  bL (s q)=bL (sF q)->(B->bL (sF q)=bL (J q)) ->
  (∀ (j:Nat) (t:cP) (U:Upd),z[j]?=some t->us[j]?=some U->D j=true->q∉t.wr->q∈U.map (·.1)->B/\∀ (k:Nat) (t':cP),k<j->z[k]?=some t'->q∈t'.wr->D k=true) ->
  bL (dj D us s q)=bL (dj (λj=>D j&&F j) us sF q)
 |[],[],[],_,_,_,_,_,_,_,_,_,H,_,_=>H
 |[],_::_,_,_,_,_,_,_,_,_,h,_,_,_,_=>h.elim
 |[],[],_::_,_,_,_,_,_,_,_,h,_,_,_,_=>h.elim
 |_::_,[],_,_,_,_,_,_,_,_,h,_,_,_,_=>h.elim
 |_::_,_::_,[],_,_,_,_,_,_,_,h,_,_,_,_=>h.elim
 |o::os,U::us,t::z,J,s',D,F,s,sF,B,h,hF,H,Y,I=>by
  obtain⟨⟨⟨k1,k2,k3⟩,_⟩,M⟩:=h;have y:=hF 0 t rfl;simp only[dj];refine qM (F:=λj=>F (j+1)) (B:=B/\(q∈t.wr->D 0=true)) M (λj t' ht=>hF (j+1) t' (by simpa using ht)) ?_ ?_ ?_
  ·by_cases r:q∈U.map (·.1)
   ·by_cases u:q∈t.wr
    ·rw[y,decide_eq_true u,CY];cases D 0 with
     |true=>simp only[cond_true];rw[ji s sF r]
     |false=>exact H
    ·rw[y,decide_eq_false u,CR];simp only[cond_false];cases O:D 0 with
     |true =>
      simp only[cond_true];rw[ji s J r,k3 q r u];exact (Y (I 0 t U rfl rfl O u r).1).symm
     |false=>exact H
   ·have e:∀ (b:Bool) (x:St),(bif b then ac U x else x) q=x q:=by intro b x;cases b <;> simp[eE _ r]
    rw[e,e];exact H
  ·rintro⟨hB,O⟩;by_cases r:q∈U.map (·.1)
   ·by_cases u:q∈t.wr
    ·rw[y,decide_eq_true u,CY,O u];simp only[cond_true];rw[ji sF J r]
    ·rw[y,decide_eq_false u,CR];simp only[cond_false];rw[k3 q r u];exact Y hB
   ·have e:∀ (b:Bool) (x:St),(bif b then ac U x else x) q=x q:=by intro b x;cases b <;> simp[eE _ r]
    rw[e,eE _ r];exact Y hB
  ·intro j t' U' ht hU O u r;obtain⟨g1,g2⟩:=I (j+1) t' U' (by simpa using ht) (by simpa using hU) O u r;exact⟨⟨g1,λX=>g2 0 t (by omega) rfl X⟩,λk t2 hk a0 Z=>g2 (k+1) t2 (by omega) (by simpa using a0) Z⟩
theorem rI {f:Nat->Nat}{i:Nat}:∀ (l:List Edge) (s:Nat),(l.foldl (λs e=>bif Region.binds .any e then s ||| 2 ^ e.on ||| f e.on else s) s).testBit i=true ->
  s.testBit i=true\/∃ e∈l,Region.binds .any e=true/\(i=e.on\/(f e.on).testBit i=true)
 |[],s,h=>.inl h
 |e::l,s,h=>by
  simp only[C3]at h;rcases rI l _ h with h|⟨z,u,y⟩
  ·cases r:Region.binds .any e with
   |false=>rw[r]at h;exact .inl h
   |true =>
    rw[r]at h;simp only[cond_true,Nat.testBit_or,CN]at h;rcases h with (h|h)|h
    ·exact .inl h
    ·refine .inr ⟨e,BG ..,r,.inl ?_⟩;rw[Nat.testBit_two_pow]at h;exact (of_decide_eq_true h).symm
    ·exact .inr ⟨e,BG ..,r,.inr h⟩
  ·exact .inr ⟨z,BF _ u,y⟩
theorem tL:∀ (z:List Oper) (r:List Nat),(∀ j,j<r.length->(jC z r).getD j 0=r.getD j 0) /\
  ∀ (k:Nat) (o:Oper),z[k]?=some o->∃ u:List Nat,u.length=r.length+k/\(∀ j,j<u.length->u.getD j 0=(jC z r).getD j 0) /\
   (jC z r).getD (r.length+k) 0=o.after.toList.foldl (λs e=>bif Region.binds .any e then s ||| 2 ^ e.on ||| u.getD e.on 0 else s) 0
 |[],r=>⟨λ_ _=>rfl,λk o h=>by simp at h⟩
 |o::z,r=>by
  obtain⟨I,O⟩:=tL z (r++[o.after.toList.foldl (λs e=>bif Region.binds .any e then s ||| 2 ^ e.on ||| r.getD e.on 0 else s) 0]);have y:∀ j,j<r.length->(jC (o::z) r).getD j 0=r.getD j 0:=by
   intro j H;simp only[jC];rw[I j (by simp;omega)];simp[BP,Bx H]
  refine⟨y,λk M h=>?_⟩;cases k with
  |zero =>
   simp at h;subst h;refine⟨r,rfl,λj H=>(y j H).symm,?_⟩;simp only[jC];rw[Nat.add_zero,I r.length (by simp)];simp[BP]
  |succ k =>
   obtain⟨u,Y,X,J⟩:=O k M (by simpa using h);refine⟨u,by simp at Y;omega,λj H=>X j H,?_⟩;simp only[jC];have e:r.length+(k+1)=(r++[o.after.toList.foldl (λs e=>bif Region.binds .any e then s ||| 2 ^ e.on ||| r.getD e.on 0 else s) 0]).length+k:=by simp;omega
   rw[e];exact J
theorem jq {ops:Array Oper}{D:Nat->Prop}(z:∀ (j:Nat) (o:Oper),ops[j]?=some o->D j->∀ e∈o.after.toList,Region.binds .any e=true->D e.on) :
  ∀ (n j:Nat),j<n->∀ (o:Oper),ops[j]?=some o->(∀ e∈o.after.toList,Region.binds .any e=true->D e.on)->∀ i,((jC ops.toList []).getD j 0).testBit i=true->D i
 |0,_,h,_,_,_,_,_=>by omega
 |n+1,j,hj,o,X,O,i,J=>by
  obtain⟨r,h1,Z,M⟩:=(tL ops.toList []).2 j o (by simpa using X);simp only[List.length_nil,CG]at h1 M;rw[M]at J;rcases rI (f:=λk=>r.getD k 0) _ _ J with h|⟨e,Y,I,y⟩
  ·simp at h
  ·rcases y with rfl|y
   ·exact O e Y I
   ·have H:e.on<r.length:=by
     apply By;intro hn;have:r.getD e.on 0=0:=by
      rw[BP,Cd (by omega)];rfl
     rw[this]at y;simp at y
    rw[Z _ H]at y;have hD:=O e Y I;have u:e.on<ops.size:=by
     have:=(CS.1 X).1;omega
    exact jq z n e.on (by omega) ops[e.on] (BM u) (z e.on _ (BM u) hD) i y
theorem fR {a b:List Nat}(h:lM a b=false){q:Nat}(r:q∈a):q∉b:=by
 intro u;unfold lM at h;rw[CW]at h;have:=h q r;simp only[CM,not_exists,not_and]at this;exact this q u (by simp)
theorem li {r:List Nat}{u:List cP}(h:pi r u=true){i j:Nat}(z:i<j){x y:cP}(M:u[i]?=some x)(J:u[j]?=some y):(r.getD j 0).testBit i=true\/x.apart y=true:=by
 unfold pi at h;rw[BX]at h;have O:=(BK.1 J).1;have H:=h j (by simpa using O);rw[BX]at H;have I:=H i (by simpa using z);simp only[M,J,CN]at I;exact I
theorem qe {p p':Nat->Bool}{i:Nat}(I:p i=true)(r:p' i=false)(h:∀ j,j≠i->p' j=p j):∀ (l:List Nat),l.Nodup->i∈l->l.countP p'+1=l.countP p
 |[],_,H=>by simp at H
 |x::l,z,H=>by
  rw[B7]at z;by_cases u:x=i
  ·subst u;have e:l.countP p'=l.countP p:=by
    apply List.countP_congr;intro y J;rw[h y (λe=>z.1 (e ▸ J))]
   simp[I,r,e]
  ·have M:=qe I r h l z.2 ((BO.1 H).resolve_left (λe=>u e.symm));simp only[Cx,h x u];omega
theorem Bm (hV:ay V)(hT:TOk P T)(hΓ:∀ c∈Γ,bQ P c){ops:Array Oper}(e6:∀ (i:Nat) (o:Oper),ops[i]?=some o->bO V o)
  (b4:∀ (i:Nat) (o:Oper),ops[i]?=some o->∀ j d3,o.guard=some (j,d3)->∀ s,(ops[j]?).bind (·.dst)=some s->s<V.nt) {Q:Exit->Act->World->Prop}
  {us:List Upd} {ts:List cP} {s0 s1:St} (a3:Run Γ T ops s0 ops.toList us ts s1) (a5:nD ops=true) (bx:pi (jC ops.toList []) ts=true) (hQ:∀ a w,Rel P V s1 a w->Q .normal a w) :
  ∀ (a2:Nat) (r:Array Bool) (a:Act) (w:World),r.size=ops.size->(C5 ops.size).countP (λi=>!r.getD i true)=a2 ->
   (∀ (j:Nat) (o:Oper),ops[j]?=some o->r.getD j false=true->∀ e∈o.after.toList,Region.binds .any e=true->r.getD e.on false=true) ->
   Rel P V (dj (λj=>r.getD j false) us s0) a w->wpAny P .any ops Q a2 r a w:=by
 obtain⟨eb,ed,cx⟩:=va a3;have e7:ops.toList.length=ops.size:=Ck;have b9:∀ (r:Array Bool),r.size=ops.size->Region.ready .any ops r=[]->∀ i,i<ops.size->r.getD i false=true:=by
  intro r a1 hr i;induction i using C4 with
  |ind i ih =>
   intro hi;cases hl:r.getD i false with
   |true=>rfl
   |false =>
    exfalso;have e0:r.getD i true=false:=by
     rw[BN,BM (by omega)]at hl ⊢;exact hl
    have ho:ops[i]?=some ops[i]:=BM hi;have bb:i∈Region.ready .any ops r:=by
     unfold Region.ready;rw[CH];refine⟨by simpa using hi,?_⟩;rw[e0,ho];simp only[C6,Co,Bw,Cy];rw[CJ];intro e he;cases e3:Region.binds .any e with
     |false=>rfl
     |true =>
      simp only[Bool.not_true,Bool.false_or];have b5:e.on<i:=by
       unfold nD at a5;rw[BX]at a5;have:=a5 i (by simpa using hi);simp only[ho]at this;rw[BX]at this;have:=this e (by simpa using he);simpa[e3]using this
      exact ih e.on b5 (by omega)
    rw[hr]at bb;simp at bb
 have bl:∀ (r:Array Bool) (a:Act) (w:World),r.size=ops.size->Rel P V (dj (λj=>r.getD j false) us s0) a w->Region.ready .any ops r=[]->Q .normal a w:=by
  intro r a w a1 hr b6;refine hQ a w ?_;rw[cx];have:dj (λ_=>true) us s0=dj (λj=>r.getD j false) us s0:=mr (λj J=>(b9 r a1 b6 j (by omega)).symm);rw[this];exact hr
 intro a2;induction a2 with
 |zero =>
  intro r a w a1 O a9 hr;have b6:Region.ready .any ops r=[]:=by
   unfold Region.ready;rw[List.filter_eq_nil_iff];intro i hi hc;rw[Cl]at O;have:=O i hi;simp only[BC]at hc;exact this hc.1
  exact⟨b6,bl r a w a1 hr b6⟩
 |succ a2 ih =>
  intro r a w a1 O a9 hr;refine⟨bl r a w a1 hr,λi hi=>?_⟩;unfold Region.ready at hi;rw[CH]at hi;obtain⟨ad,c1⟩:=hi;have ad:i<ops.size:=by simpa using ad
  have ho:ops[i]?=some ops[i]:=BM ad;rw[ho]at c1;simp only[BC,CA,Bw,Cy]at c1;obtain⟨b3,a6⟩:=c1;rw[CJ]at a6;have Y:r.getD i false=false:=by
   rw[BN,BM (by omega)]at b3 ⊢;exact b3
  have d1:∀ e∈(ops[i]).after.toList,Region.binds .any e=true->r.getD e.on false=true:=by
   intro e he hb;have:=a6 e (by simpa using he);simpa[hb]using this
  obtain⟨U,t,hU,ht,b2⟩:=qL a3 i ops[i] (by simp);have b0:∀ (j:Nat) (o:Oper),ops[j]?=some o->(λk=>r.getD k false=true) j->∀ e∈o.after.toList,Region.binds .any e=true->(λk=>r.getD k false=true) e.on:=a9;obtain⟨e4,_,_⟩:=b2.1;have X:∀ (j:Nat) (M:Upd),us[j]?=some M->∃ H,ts[j]?=some H/\(∀ q∈M.map (·.1),q∈H.wr\/q∈H.cw)/\∀ q∈H.wr,q∈M.map (·.1):=by
   intro j M J;have a4:j<ops.size:=by
    have:=(BK.1 J).1;omega
   obtain⟨U2,t2,h1,Z,h3⟩:=qL a3 j ops[j] (by simp[a4]);rw[J]at h1;cases h1;exact⟨t2,Z,h3.1.1,h3.1.2.1⟩
  have c2:∀ (j:Nat) (M:Upd),us[j]?=some M->j≠i->r.getD j false≠decide (j<i)->∃ H,ts[j]?=some H/\(∀ q∈M.map (·.1),q∈H.wr\/q∈H.cw)/\(H.apart t=true\/t.apart H=true):=by
   intro j M J a8 u;obtain⟨H,h1,Z,_⟩:=X j M J;refine⟨H,h1,Z,?_⟩;rcases Nat.lt_or_gt_of_ne a8 with b5|dc
   ·have hl:r.getD j false=false:=by
     cases hl:r.getD j false with
     |false=>rfl
     |true=>rw[hl]at u;simp[b5]at u
    rcases li bx b5 h1 ht with h3|h3
    ·have:=jq b0 (i+1) i (CF _) ops[i] ho d1 j h3;rw[hl]at this;cases this
    ·exact .inl h3
   ·have hl:r.getD j false=true:=by
     cases hl:r.getD j false with
     |true=>rfl
     |false=>rw[hl]at u;simp at u;omega
    have a4:j<ops.size:=by
     have:=(BK.1 J).1;omega
    have b1:ops[j]?=some ops[j]:=BM a4;rcases li bx dc ht h1 with h3|h3
    ·have:=jq b0 (j+1) j (CF _) ops[j] b1 (a9 j _ b1 hl) i h3;rw[Y]at this;cases this
    ·exact .inr h3
  have a0:∀ (x y:cP),x.apart y=true->(∀ q,q∈x.wr\/q∈x.cw->(q∉y.wr/\q∉y.cw)/\q∉y.rd)/\(∀ q,q∈y.wr\/q∈y.cw->(q∉x.wr/\q∉x.cw)/\q∉x.rd)/\(∀ q∈x.wr,q∉y.hd)/\∀ q∈y.wr,q∉x.hd:=by
   intro x y h;unfold cP.apart at h;simp only[BC,CA]at h;obtain⟨⟨⟨⟨h1,Z⟩,h3⟩,h4⟩,h5⟩:=h;refine⟨λq I=>?_,λq I=>?_,λq I=>fR h4 I,λq I hx=>fR h5 hx I⟩
   ·have I:=BB.2 I;have:=fR h1 I;simp only[BB,not_or]at this;exact⟨this,fR Z I⟩
   ·have I:=BB.2 I;have:q∉x.wr++x.cw:=λhx=>fR h1 hx I
    simp only[BB,not_or]at this;exact⟨this,λhx=>fR h3 hx I⟩
  have ba:∀ (j:Nat) (M:Upd),us[j]?=some M->j≠i->r.getD j false≠decide (j<i)->∀ q∈M.map (·.1),(q∉t.wr/\q∉t.cw)/\q∉t.rd:=by
   intro j M J a8 u q I;obtain⟨H,_,h1,Z⟩:=c2 j M J a8 u;rcases Z with Z|Z
   ·exact (a0 _ _ Z).1 q (h1 q I)
   ·exact (a0 _ _ Z).2.1 q (h1 q I)
  have bn:∀ (j:Nat) (H:cP),ts[j]?=some H->j≠i->r.getD j false≠decide (j<i)->∀ q∈H.wr,q∉t.hd:=by
   intro j H J a8 u q I;have a4:j<us.length:=by
    have:=(BK.1 J).1;omega
   obtain⟨t2,h0,_,Z⟩:=c2 j us[j] (BR a4) a8 u;rw[J]at h0;cases h0;rcases Z with Z|Z
   ·exact (a0 _ _ Z).2.2.1 q I
   ·exact (a0 _ _ Z).2.2.2 q I
  have c3:mq Γ T ops ops[i] (dj (λj=>r.getD j false) us s0) U:=by
   refine b2.frame (λq I=>?_) (λq I=>?_)
   ·refine mt rfl λj M J cy=>?_
    by_cases z:j=i
    ·subst z;rw[Y];simp
    ·apply By;intro u;have:=ba j M J z u q cy;rcases I with I|I
     ·exact this.2 I
     ·exact this.1.1 I
   ·have d2:∀ (j:Nat) (H:cP),ts[j]?=some H->(λj=>match ts[j]? with|some H=>decide (q∈H.wr)|none=>false) j=decide (q∈H.wr):=λj H h=>by simp only[h]
    have e1:=qM (q:=q) (D:=λj=>r.getD j false) (F:=λj=>match ts[j]? with|some H=>decide (q∈H.wr)|none=>false) (s:=s0) (sF:=s0) (B:=True) a3 d2 rfl (λ_=>rfl) (λj H M J hU hD hw cp=>by
     refine⟨trivial,λk t2 hk cu cc=>?_⟩;obtain⟨t3,h3,h4,_⟩:=X j M hU;rw[J]at h3;cases h3;have dn:=(h4 q cp).resolve_left hw;have a4:j<ops.size:=by
      have:=(BK.1 hU).1;omega
     have b1:ops[j]?=some ops[j]:=BM a4;rcases li bx hk cu J with h5|h5
     ·exact jq b0 (j+1) j (CF _) ops[j] b1 (a9 j _ b1 hD) k h5
     ·exact absurd dn ((a0 _ _ h5).1 q (.inl cc)).1.2)
    have e2:=qM (q:=q) (D:=λj=>decide (j<i)) (F:=λj=>match ts[j]? with|some H=>decide (q∈H.wr)|none=>false) (s:=s0) (sF:=s0) (B:=True) a3 d2 rfl (λ_=>rfl) (λj H M J hU hD hw cp=>by
     refine⟨trivial,λk t2 hk cu cc=>?_⟩;have:=of_decide_eq_true hD;exact decide_eq_true (by omega))
    rw[e1,e2];congr 1;refine mt rfl λj M J cy=>?_
    obtain⟨H,h1,Z,_⟩:=X j M J;simp only[h1];by_cases hw:q∈H.wr
    ·rw[decide_eq_true hw,CY,CY];by_cases z:j=i
     ·subst z;rw[Y];simp
     ·apply By;intro u;exact bn j H h1 z u q hw I
    ·rw[decide_eq_false hw,CR,CR]
  refine wv hV hT hΓ ho (e6 i _ ho) (b4 i _ ho) c3 hr λa' w' e5=>?_
  have a7:∀ (b:Bool) (j:Nat),(r.setIfInBounds i true).getD j b=if j=i then true else r.getD j b:=by
   intro b j;simp only[BN,Array.getElem?_setIfInBounds];by_cases z:j=i
   ·subst z;simp[a1,ad]
   ·rw[if_neg (λe=>z e.symm),if_neg z]
  refine ih _ a' w' (by simpa using a1) ?_ ?_ ?_
  ·have:=qe (p:=λj=>!r.getD j true) (p':=λj=>!(r.setIfInBounds i true).getD j true) (i:=i) (by simp[b3]) (by simp[a7]) (λj J=>by simp[a7,J]) (C5 ops.size) List.nodup_range (by simpa using ad);omega
  ·intro j o' J c0 e he hb;rw[a7]at c0 ⊢;by_cases cb:e.on=i
   ·rw[if_pos cb]
   ·rw[if_neg cb];by_cases z:j=i
    ·subst z;rw[ho]at J;cases J;exact d1 e he hb
    ·rw[if_neg z]at c0;exact a9 j o' J c0 e he hb
  ·have c4:=oy (U:=U) (us:=us) (i:=i) (D:=λj=>r.getD j false) (D':=λj=>(r.setIfInBounds i true).getD j false) (s:=s0) hU Y (λj=>by
     simp only[a7];by_cases z:j=i
     ·subst z;simp
     ·have:BJ j i=false:=by
       cases hb:BJ j i with
       |false=>rfl
       |true=>exact absurd (BH hb) z
      simp[z,this])
    (λj M J ec hD q I dd=>by
     have:=ba j M J (by omega) (by rw[hD];simp;omega) q dd;exact (e4 q I).elim this.1.1 this.1.2)
   rw[c4];exact e5
theorem Bn (hV:ay V)(hT:TOk P T)(hΓ:∀ c∈Γ,bQ P c)(J:P.follows .mixedOrders=true){id:Nat}{ops:Array Oper}{y:Bool}(X:∀ (i:Nat) (o:Oper),ops[i]?=some o->bO V o)
  (u:∀ (i:Nat) (o:Oper),ops[i]?=some o->∀ j O,o.guard=some (j,O)->∀ s,(ops[j]?).bind (·.dst)=some s->s<V.nt) {Q:Exit->Act->World->Prop} {κ:St->Option R} {r:R}
  (h:regK Γ T ops y st κ=some r) (hκ:∀ H,κ H=some r->∀ a w,Rel P V H a w->Q .normal a w) {a:Act} {w:World} (Y:Rel P V st a w):(Code.region id ops y).wp P Q a w:=by
 unfold regK at h;cases y with
 |true =>
  simp only[cond_true]at h;obtain⟨us,ts,H,z,I⟩:=pa _ _ _ _ _ h;simp only[B5]at I;cases M:nD ops&&pi (jC ops.toList []) ts with
  |false=>simp[M]at I
  |true =>
   simp only[M,cond_true]at I;simp only[BC]at M;refine wp_region_any J ?_;have hD:∀ j,(B8 ops.size false).getD j false=false:=by
    intro j;simp only[BN,CZ];split <;> rfl
   refine Bm hV hT hΓ X u z M.1 M.2 (hκ H I) ops.size (B8 ops.size false) a _ (by simp) ?_ ?_ ?_
   ·rw[List.countP_eq_length.2]
    ·simp
    ·intro i Z;have Z:i<ops.size:=by simpa using Z
     simp[BN,CZ,Z]
   ·intro j o' _ hl;rw[hD]at hl;cases hl
   ·rw[nu (λj=>hD j)];obtain⟨W,Y⟩:=Y;exact⟨W,Y.world hV (w':={ w with drawn:=w.drawn+1 }) (Cg _) rfl rfl rfl (λ_ _=>rfl)⟩
 |false =>
  simp only[cond_false]at h;obtain⟨us,ts,H,z,I⟩:=pa _ _ _ _ _ h;refine wp_region ?_;have:=u9 hV hT hΓ X u ops.toList 0 st us ts H (by simp) z (hκ H I) a w Y;rw[Ck,<- List.range_eq_range']at this;exact this
end
section
variable {P:Program} {V:Env} {Γ:List Ctr} {T:TypeId->TI} {st st':St} {o:Oper} {R:Type} {all:Array Oper}
theorem kL (live:List Nat):∀ (cs:List Coe) (ls:List Leaf),(c8 st live cs ls).length=ls.length
 |[],[]=>rfl
 |_::_,[]=>rfl
 |[],_::ls=>by simp[c8,kL live [] ls]
 |_::cs,_::ls=>by simp[c8,kL live cs ls]
theorem pb (live:List Nat):∀ (cs:List Coe) (ls:List Leaf) (j:Nat) (l:Leaf),(c8 st live cs ls)[j]?=some l->∃ r,ls[j]?=some r/\(l=.dead\/∃ c,l=bw st live c r)
 |[],[],j,l,h=>by simp[c8]at h
 |_::_,[],j,l,h=>by simp[c8]at h
 |[],r::ls,0,l,h=>by simp[c8]at h;exact⟨r,rfl,.inl h.symm⟩
 |c::cs,r::ls,0,l,h=>by simp[c8]at h;exact⟨r,rfl,.inr ⟨c,h.symm⟩⟩
 |[],r::ls,j+1,l,h=>by
  simp only[c8,Ca]at h;obtain⟨y,u,z⟩:=pb live [] ls j l h;exact⟨y,by simpa using u,z⟩
 |c::cs,r::ls,j+1,l,h=>by
  simp only[c8,Ca]at h;obtain⟨y,u,z⟩:=pb live cs ls j l h;exact⟨y,by simpa using u,z⟩
theorem At (live:List (Nat×List Coe))(q:Nat):lN live st q=bT.none/\q∉live.map (·.1)\/∃ y,lN live st q=⟨0,(st q).sh,c8 st (live.map (·.1)) y (st q).ls⟩/\q∈live.map (·.1):=by
 have H:∀ (u:List Nat) (l:List (Nat×List Coe)),(av (l.map λr=>(r.1,⟨0,(st r.1).sh,c8 st u r.2 (st r.1).ls⟩)) q=bT.none/\q∉l.map (·.1)) \/
   ∃ y,av (l.map λr=>(r.1,⟨0,(st r.1).sh,c8 st u r.2 (st r.1).ls⟩)) q=⟨0,(st q).sh,c8 st u y (st q).ls⟩/\q∈l.map (·.1):=by
  intro u l;induction l with
  |nil=>exact .inl ⟨rfl,by simp⟩
  |cons x l O =>
   obtain⟨r,y⟩:=x;by_cases h:q=r
   ·subst h;exact .inr ⟨y,by simp[av,ac],by simp⟩
   ·have z:BJ q r=false:=by
     cases z:BJ q r with
     |false=>rfl
     |true=>exact absurd (BH z) h
    rcases O with ⟨I,M⟩|⟨J,I,M⟩
    ·refine .inl ⟨?_,by simpa[h]using M⟩;rw[<- I];simp[av,ac,z]
    ·refine .inr ⟨J,?_,by simp only[BY,BO];exact .inr M⟩;rw[<- I];simp[av,ac,z]
 exact H (live.map (·.1)) live
theorem xV {keys:List Nat}{c:Coe}{r:Leaf}(h:an (bw st keys c r)):an r\/r=.nil:=by
 cases r with
 |own p y E e u=>exact .inl trivial
 |nil=>exact .inr rfl
 |_ =>
  exfalso;revert h;cases c <;> simp only[bw] <;> first
   |exact id
   |(cases (!_||_:Bool) <;> first | exact id | (split <;> exact id))
   |(cases (_&&_:Bool) <;> exact id)
   |(cases (List.any _ _:Bool) <;> exact id)
   |(cases (List.all _ _:Bool) <;> exact id)
theorem iK.nw {W W':Wit}{w:World}{c:Bool×Bool×(a:Ty)×a.den}{u:Value}(r:∀ k,W.nw k->W'.nw k)(h:iK V W w c u):iK V W' w c u:=by
 have z:∀ (p:Bool) k,gd V W p k->gd V W' p k:=λp k hk=>hk.imp (r k) id
 unfold iK at h ⊢;split at h
 ·rename_i M;rw[if_pos M];obtain⟨b,ob,g,X,O,Y,I,y,Z,J,H⟩:=h;exact⟨b,ob,g,X,O,Y,I.imp (r b) id,y,Z.imp (r g) id,Rd.mono (z _) J,H⟩
 ·rename_i M;rw[if_neg M];obtain⟨g,X,O,Y,Z,J,H⟩:=h;exact⟨g,X,O,Y,Z.imp (r g) id,Rd.mono (z _) J,H⟩
theorem ww {W W':Wit}{w:World}{keys:List Nat}{bs bs':List Nat}{c:Coe}{M:Leaf}{v:Value}(h:aJ P V W st w bs M v)
  (H:∀ k,W.nw k->W'.nw k) (hβ:W'.β=W.β) (a7:∀ q,keys.any (BJ q)=true->W'.cs q=W.cs q) (z:∀ b,keys.any (BJ b)=true->(st b).sh=.agg->(st' b).sh=.agg)
  (a1:an M->bs'=bs) (a2:M=.nil->bs'=[]) (a3:an M->¬ an (bw st keys c M)->(∃ p E e,c=.ro p E e)->∀ k∈bs,W'.nw k) :
  aJ P V W' st' w bs' (bw st keys c M) v:=by
 have I:∀ (p q:Bool),(!q||p)=true->∀ k,gd V W q k->gd V W' p k:=by
  intro p q a5 k J;rcases J with J|⟨Z,J⟩
  ·exact .inl (H k J)
  ·refine .inr ⟨?_,J⟩;subst Z;simpa using a5
 cases c with
 |kill=>simp only[bw];trivial
 |keep =>
  cases M with
  |int k n=>exact h
  |bool b=>exact h
  |str s=>exact h
  |nil=>exact h
  |hdr n=>exact h
  |fn As B φ=>exact h
  |clr f O =>
   obtain⟨us,Z,h2,h3⟩:=h;exact⟨us,Z,h2,λi c u g1 g2=>(h3 i c u g1 g2).nw H⟩
  |al r j n =>
   simp only[bw];cases y:keys.any (BJ r)&&BJ (st r).ver n with
   |false=>trivial
   |true =>
    simp only[BC]at y;exact⟨Cz _,λ_=>by rw[a7 r y.1];exact h.2 (BH y.2)⟩
  |bp b off =>
   simp only[bw];cases y:keys.any (BJ b) with
   |false=>trivial
   |true =>
    obtain⟨Z,h2,h3⟩:=h;exact⟨Z,z b y h2,by rw[hβ];exact h3⟩
  |clo f O =>
   simp only[bw];cases y:O.all (λb=>keys.any (BJ b)) with
   |false=>trivial
   |true =>
    obtain⟨Z,h2⟩:=h;rw[BX]at y;exact⟨by rw[hβ];exact Z,λb Y=>⟨(h2 b Y).1,z b (y b Y) (h2 b Y).2⟩⟩
  |_=>simp only[bw];trivial
 |own p E e =>
  cases M with
  |nil =>
   have hv:v=.slice none 0 0:=h;subst hv;rw[a2 rfl];exact OwH.nil w _ E e
  |own q hh E' e' xs =>
   cases hh with
   |some x=>simp only[bw];trivial
   |none =>
    simp only[bw];cases y:(!q||p) with
    |false=>trivial
    |true =>
     rw[a1 trivial];exact OwH.carry h (I p q y) (λ_ _=>rfl) (λ_ _=>rfl)
  |_=>simp only[bw];trivial
 |ro p E e =>
  cases M with
  |nil =>
   have hv:v=.slice none 0 0:=h;subst hv;exact Rd.nil w _ false E e
  |ro q E' e' xs =>
   simp only[bw];cases y:(!q||p) with
   |false=>trivial
   |true =>
    simp only[cond_true];split
    ·rename_i ys X;exact Rd.castSh (m:=false) (m':=false) (E:=E) X (Rd.mono (I p q y) h)
    ·trivial
  |own q hh E' e' xs =>
   cases hh with
   |some x=>simp only[bw];trivial
   |none =>
    have a6:=a3 trivial (by
     simp only[bw];cases (!q||p) with
     |false=>exact id
     |true=>simp only[cond_true];split <;> exact id) ⟨p,E,e,rfl⟩
    simp only[bw];cases y:(!q||p) with
    |false=>trivial
    |true =>
     simp only[cond_true];split
     ·rename_i ys X;refine Rd.castSh (m:=false) (m':=false) (E:=E) (E':=E') X (Rd.mono (λk J=>?_) (OwH.rd (m:=false) (E':=E') h));rcases J with J|J
      ·exact I p q y k J
      ·exact .inl (a6 k J)
     ·trivial
  |_=>simp only[bw];trivial
 |rp p =>
  cases M with
  |rpp q a x =>
   simp only[bw];cases y:(!q||p) with
   |false=>trivial
   |true =>
    obtain⟨b,ob,g,o',c,hv,a4,a0,hg,hr,X⟩:=h;exact⟨b,ob,g,o',c,hv,a4.imp (H b) id,a0,hg.imp (H g) id,Rd.mono (I p q y) hr,X⟩
  |rp q a x off =>
   simp only[bw];cases y:(!q||p) with
   |false=>trivial
   |true =>
    obtain⟨g,o',c,hv,hg,hr,X⟩:=h;exact⟨g,o',c,hv,hg.imp (H g) id,Rd.mono (I p q y) hr,X⟩
  |_=>simp only[bw];trivial
open Classical in
theorem vd (_hV:ay V){a:Act}{w:World}(h:Rel P V st a w)(live:List (Nat×List Coe))(a4:∀ x∈V.fixb,x.1∈live.map (·.1)):Rel P V (lN live st) a w:=by
 obtain⟨W,h⟩:=h;have J:=At (st:=st) live;have X:∀ b,Go.Proofs.YtadlacffdemoiaaGreatEv.live (lN live st) b->Go.Proofs.YtadlacffdemoiaaGreatEv.live st b:=by
  rintro b ⟨H,z⟩;rcases J b with ⟨e,_⟩|⟨cs,e,_⟩
  ·rw[e]at z;cases z
  ·rw[e]at z;exact⟨H,z⟩
 have a2:∀ (q j:Nat) (l:Leaf),(lN live st q).ls[j]?=some l->q∈live.map (·.1)/\∃ r,(st q).ls[j]?=some r/\(l=.dead\/∃ c,l=bw st (live.map (·.1)) c r):=by
  intro q j l Y;rcases J q with ⟨e,_⟩|⟨cs,e,I⟩
  ·rw[e]at Y;simp[bT.none]at Y
  ·rw[e]at Y;exact⟨I,pb _ _ _ _ _ Y⟩
 have b3:∀ (q j:Nat) (l:Leaf),(lN live st q).ls[j]?=some l->an l->∃ r,(st q).ls[j]?=some r/\(an r\/r=.nil):=by
  intro q j l Y ho;obtain⟨_,r,H,z⟩:=a2 q j l Y;rcases z with rfl|⟨c,rfl⟩
  ·exact ho.elim
  ·exact⟨r,H,xV ho⟩
 have a0:∀ b,(live.map (·.1)).any (BJ b)=true->b∈live.map (·.1):=λb O=>by
  rw[CM]at O;obtain⟨x,hx,he⟩:=O;rw[BH he];exact hx
 let y:Nat->Nat->List Nat:=λq j=>if (∃ r,(st q).ls[j]?=some r/\an r) then W.bs q j else []
 let a1:Nat->Prop:=λk=>W.nw k\/∃ q j r l,(st q).ls[j]?=some r/\an r/\(lN live st q).ls[j]?=some l/\¬ an l/\k∈W.bs q j
 have Z:∀ (q j k:Nat),k∈y q j->(∃ r,(st q).ls[j]?=some r/\an r)/\k∈W.bs q j:=by
  intro q j k M;by_cases hc:∃ r,(st q).ls[j]?=some r/\an r
  ·simp only[y,if_pos hc]at M;exact⟨hc,M⟩
  ·simp only[y,if_neg hc]at M;simp at M
 refine⟨{ β:=W.β,cs:=λq=>if q∈live.map (·.1) then W.cs q else [],bs:=y,nw:=a1 },?_⟩
 exact {
  nt:=h.nt,df:=h.df
  slots:=λt ht=>by
   rcases J t with ⟨e,I⟩|⟨cs,e,I⟩
   ·rw[e];simp[I,bT.none,ee]
   ·rw[e];simp only[I,if_true];exact h.slots t ht
  boxes:=λb O=>by
   rcases J b with ⟨e,I⟩|⟨cs,e,I⟩
   ·rw[e];exact .inl ⟨rfl,rfl⟩
   ·rw[e];rcases h.boxes b O with ⟨H,z⟩|⟨H,E,z⟩
    ·exact .inl ⟨H,by rw[z];exact List.eq_nil_of_length_eq_zero (by rw[kL];rfl)⟩
    ·exact .inr ⟨H,E,by simp only[I,if_true];exact z⟩
  len:=λq=>by
   rcases J q with ⟨e,I⟩|⟨cs,e,I⟩
   ·rw[e];simp[I,bT.none]
   ·rw[e];simp only[I,if_true,kL];exact h.len q
  one:=λq u hu=>by
   by_cases I:q∈live.map (·.1)
   ·simp only[I,if_true]at hu;exact h.one q u hu
   ·simp only[I,if_false]at hu;simp at hu
  leaf:=λq j l v Y hv=>by
   obtain⟨I,r,H,z⟩:=a2 q j l Y;simp only[I,if_true]at hv;have b0:=h.leaf q j r v H hv;rcases z with rfl|⟨c,rfl⟩
   ·trivial
   ·refine ww (st:=st) (W:=W) (W':={ β:=W.β,cs:=λq=>if q∈live.map (·.1) then W.cs q else [],bs:=y,nw:=a1 }) (keys:=live.map (·.1)) b0 (λk M=>Or.inl M) rfl (λq hq=>if_pos (a0 q hq)) ?_ ?_ ?_ ?_
    ·intro b O a7;have b1:=a0 b O;rcases J b with ⟨_,a9⟩|⟨cs,e,_⟩
     ·exact absurd b1 a9
     ·rw[e];exact a7
    ·intro ho;show y q j=_;simp only[y,if_pos (⟨r,H,ho⟩:∃ r,(st q).ls[j]?=some r/\an r)]
    ·intro e;show y q j=_;have hc:¬ ∃ r,(st q).ls[j]?=some r/\an r:=by
      rintro⟨l1,h3,h4⟩;rw[H,e]at h3;cases h3;exact h4.elim
     simp only[y,if_neg hc]
    ·intro ho hn _ k M;exact .inr ⟨q,j,r,_,H,ho,Y,hn,M⟩
  ownb:=λq j l Y ho k M=>by
   obtain⟨⟨r,H,z⟩,h3⟩:=Z q j k M;obtain⟨q1,q2,q3⟩:=h.ownb q j r H z k h3;refine⟨?_,q2,λb O=>q3 b (X b O)⟩;rintro (hn|⟨q',j',l1,l2,h4,h5,h6,h7,h8⟩)
   ·exact q1 hn
   ·obtain⟨rfl,rfl⟩:=h.sep q j r q' j' l1 H z h4 h5 k h3 h8;rw[Y]at h6;cases h6;exact h7 ho
  sep:=λq j l q' j' l' _ _ _ _ k M a8=>by
   obtain⟨⟨r,H,z⟩,h3⟩:=Z q j k M;obtain⟨⟨b2,ad,a5⟩,a3⟩:=Z q' j' k a8;exact h.sep q j r q' j' b2 H z ad a5 k h3 a3
  box:=λb O=>by
   obtain⟨q1,q2⟩:=h.box b (X b O);refine⟨?_,q2⟩;rintro (hn|⟨q',j',l1,l2,h4,h5,h6,h7,h8⟩)
   ·exact q1 hn
   ·exact (h.ownb q' j' l1 h4 h5 _ h8).2.2 b (X b O) rfl
  inj:=λb b' O a6=>h.inj b b' (X b O) (X b' a6)
  nwlt:=λk M=>by
   rcases M with hn|⟨q',j',l1,l2,h4,h5,h6,h7,h8⟩
   ·exact h.nwlt k hn
   ·exact⟨h.own_lt h4 h5 k h8,(h.ownb q' j' l1 h4 h5 k h8).2.1⟩
  os:=h.os,tape:=h.tape,output:=h.output,size:=h.size,keep:=h.keep
  fixb:=λx hx=>by
   obtain⟨⟨H,z⟩,h3⟩:=h.fixb x hx;refine⟨⟨H,?_⟩,h3⟩;rcases J x.1 with ⟨_,I⟩|⟨cs,e,_⟩
   ·exact absurd (a4 x hx) I
   ·rw[e];exact z
  fixt:=h.fixt }
def exOf:Ex->Exit
 |.normal=>.normal
 |.exit id=>.exit id
 |.ret=>.ret
theorem mu {nt:Nat}{fix:List Nat}(u:V.nt=nt)(r:∀ x∈V.fixt,x.1∈fix)(h:lp nt fix all o=true):bO V o:=by
 intro d I;simp only[lp,I,BC,CA,CW]at h;obtain⟨⟨y,H⟩,_⟩:=h;refine⟨by rw[u];simpa[CI]using y,λx z e=>?_⟩;exact H _ (r x z) (by simp[e])
end
section
variable {P:Program} {V:Env} {Γ:List Ctr} {T:TypeId->TI} {R:Type}
open Classical in
theorem tM {Q:Exit->Act->World->Prop}{a:Act}{w:World}{c:Code}(J:Nat->Act->World->Prop)(h0:∃ n,J n a w)(hz:∀ a w,¬ J 0 a w)
  (y:∀ n a w,J (n+1) a w->c.wp P (Exit.then (J n) Q) a w):(Code.loop c).wp P Q a w:=by
 have u:∀ (a:Act) (w:World) (n:Nat),J n a w->∃ m,J m a w/\m<=n/\∀ k,J k a w->m<=k:=by
  intro a w n;induction n using C4 with
  |ind n ih =>
   intro H;by_cases h:∃ k,k<n/\J k a w
   ·obtain⟨k,O,hJ⟩:=h;obtain⟨m,r,I,M⟩:=ih k O hJ;exact⟨m,r,by omega,M⟩
   ·refine⟨n,H,Cg _,λk O=>?_⟩;apply By;intro a0;exact h ⟨k,by omega,O⟩
 let z:Act->World->Nat:=λa w=>if h:∃ m,J m a w/\∀ k,J k a w->m<=k then h.choose else 0
 have hμ:∀ a w n,J n a w->J (z a w) a w/\z a w<=n:=by
  intro a w n H;obtain⟨m,r,_,M⟩:=u a w n H;have h:∃ m,J m a w/\∀ k,J k a w->m<=k:=⟨m,r,M⟩;have e:z a w=h.choose:=by simp only[z];rw[dif_pos h]
  rw[e];exact⟨h.choose_spec.1,h.choose_spec.2 n H⟩
 refine wp_loop (λa w=>∃ n,J n a w) z h0 λa w ⟨n,H⟩=>?_
 obtain⟨r,_⟩:=hμ a w n H;cases hm:z a w with
 |zero=>rw[hm]at r;exact absurd r (hz a w)
 |succ m =>
  rw[hm]at r;refine wp_mono (y m a w r) λe X Y Z=>?_
  cases e with
  |normal =>
   have I:J m X Y:=Z;exact⟨⟨m,I⟩,Nat.lt_succ_of_le (hμ X Y m I).2⟩
  |_=>exact Z
theorem za {st:St}{a:Act}{w:World}(u:Rel P V st a w){t:Nat}(y:t<GH){b:Bool}(z:(st t).sh=.one)(H:(st t).ls=[.bool b]):a.eval (.tmp t)=.bool b:=by
 obtain⟨W,u⟩:=u;have r:=u.slots t y;rw[z]at r;have r:W.cs t=[a.tmps.getD t undef]:=r;have I:=u.leaf t 0 (.bool b) (a.tmps.getD t undef) (by rw[H];rfl) (by rw[r];rfl);exact I
theorem sg (hV:ay V)(hT:TOk P T)(hΓ:∀ c∈Γ,bQ P c)(a3:P.follows .mixedOrders=true){fx:List Nat}(a5:∀ x∈V.fixb,x.1∈fx){nt:Nat}{fix:List Nat}(a1:V.nt=nt)(a2:∀ x∈V.fixt,x.1∈fix)
  {L:List (Nat×List (Nat×List Coe))} {X:Nat}:∀ (c:Code),dQ nt fix c=true->dt L fx c=true->∀ (st:St) (I:Ex->St->Option R) (r:R) (Q:Exit->Act->World->Prop),evK Γ T L X c st I=some r ->
   (∀ ex J,I ex J=some r->∀ a w,Rel P V J a w->Q (exOf ex) a w)->∀ a w,Rel P V st a w->c.wp P Q a w:=by
 intro c;induction c with
 |skip=>exact λ_ _ st I r Q h z a w u=>wp_skip (z .normal st h a w u)
 |region id a4 a6 =>
  intro hc hlp st I r Q h z a w u;simp only[dQ,BX]at hc;have a0:∀ (i:Nat) (o:Oper),a4[i]?=some o->lp nt fix a4 o=true:=λi o hi=>hc o (by simpa using Ce hi)
  refine Bn hV hT hΓ a3 (λi o hi=>mu a1 a2 (a0 i o hi)) (λi o hi j a7 hg s hs=>?_) h (λJ H a w u=>z .normal J H a w u) u;have:=a0 i o hi;simp only[lp,hg,hs,BC]at this;rw[a1];simpa[CI]using this.2
 |seq x y Y Z =>
  intro hc hlp st I r Q h z a w u;simp only[dQ,BC]at hc;simp only[dt,BC]at hlp;simp only[evK]at h;refine wp_seq (Y hc.1 hlp.1 st _ r _ h (λex J H a w u=>?_) a w u);cases ex with
  |normal=>exact Z hc.2 hlp.2 J I r Q H z a w u
  |exit id=>exact z (.exit id) J H a w u
  |ret=>exact z .ret J H a w u
 |cond t x y Y Z =>
  intro hc hlp st I r Q h z a w u;simp only[dQ,BC]at hc;simp only[dt,BC]at hlp;simp only[evK]at h;unfold zh at h;split at h
  ·rename_i t;split at h
   ·rename_i b H h2;have hv:=za u (Cq (by have:=hc.1.1;simp only[wD,CI]at this;rw[a1];exact this) hV.nt) H h2;cases b with
    |true =>
     simp only[cond_true]at h;rw[o9 H h2]at h;exact wp_cond_true hv (Y hc.1.2 hlp.1 st I r Q h z a w u)
    |false =>
     simp only[cond_false]at h;rw[o9 H h2]at h;exact wp_cond_false hv (Z hc.2 hlp.2 st I r Q h z a w u)
   ·cases h
  ·rename_i b;cases b with
   |true=>exact wp_cond_true rfl (Y hc.1.2 hlp.1 st I r Q h z a w u)
   |false=>exact wp_cond_false rfl (Z hc.2 hlp.2 st I r Q h z a w u)
  ·cases h
 |block id c ih =>
  intro hc hlp st I r Q h z a w u;simp only[dQ]at hc;simp only[dt]at hlp;simp only[evK]at h;refine wp_block (ih hc hlp st _ r _ h (λex J H a w u=>?_) a w u);cases ex with
  |normal=>exact z .normal J H a w u
  |exit M =>
   simp only[sl]at H;show if M=id then Q .normal a w else Q (.exit M) a w
   by_cases e:M=id
   ·rw[if_pos e];subst e;simp only[Nat.beq_refl,cond_true]at H;exact z .normal J H a w u
   ·rw[if_neg e];have hb:BJ M id=false:=by
     cases hb:BJ M id with
     |false=>rfl
     |true=>exact absurd (BH hb) e
    rw[hb]at H;exact z (.exit M) J H a w u
  |ret=>exact z .ret J H a w u
 |loop c ih =>
  intro hc hlp st I r Q h z a w u;simp only[dQ]at hc;simp only[dt,BC,BX]at hlp;simp only[evK]at h;have O:∀ x∈V.fixb,x.1∈(ln L (eO c)).map (·.1):=λx hx=>by
   obtain⟨r,u,he⟩:=CM.1 (hlp.1 x.1 (a5 x hx));exact BL.2 ⟨r,u,BH he⟩
  refine tM (λn a w=>∃ st,aV (ln L (eO c)) (evK Γ T L X c) n st I=some r/\Rel P V st a w) ⟨X,_,h,vd hV u _ O⟩ ?_ ?_
  ·rintro a w ⟨st,H,_⟩;cases H
  ·rintro n a w ⟨st,H,u⟩;simp only[aV]at H;refine ih hc hlp.2 st _ r _ H (λex J h2 a w u=>?_) a w u;cases ex with
   |normal=>exact⟨_,h2,vd hV u _ O⟩
   |exit id=>exact z (.exit id) J h2 a w u
   |ret=>exact z .ret J h2 a w u
 |exit id=>exact λ_ _ st I r Q h z a w u=>wp_exit (z (.exit id) st h a w u)
 |ret=>exact λ_ _ st I r Q h z a w u=>wp_ret (z .ret st h a w u)
 |_=>intro _ _ st I r Q h;simp[evK]at h
end
section
variable {P:Program} {Γ:List Ctr} {T:TypeId->TI} {R:Type} {w:World} {ro pr:Nat->Prop}
theorem iY {G:Nat->Prop}{p:Bool}:∀ {b:Ty} {h:Option Nat} {pos:Nat} {x:b.den} {cs:List Value} {bs:List Nat},Mx w G b h pos x cs bs->bs.Nodup ->
  ∃ a2:Nat->List Nat,
   (∀ (V:Env) (W:Wit) (st:St),(∀ k,G k->gd V W p k)->∀ (j:Nat) (l:Leaf) (u:Value),h≠some (pos+j)->(aq p b x)[j]?=some l->cs[j]?=some u->aJ P V W st w (a2 j) l u) /\
   (∀ (j:Nat) (l:Leaf),h≠some (pos+j)->(aq p b x)[j]?=some l->an l->∀ k∈a2 j,k∈bs) /\
   (∀ (j J:Nat) (l l':Leaf),h≠some (pos+j)->h≠some (pos+J)->(aq p b x)[j]?=some l->an l->(aq p b x)[J]?=some l'->an l'->∀ k,k∈a2 j->k∈a2 J->j=J)
 |.int k,_,_,x,cs,bs,H,_=>by
  obtain⟨rfl,rfl⟩:=H;exact⟨λ_=>[],λV W st _ j l u _ y X=>by cases j with|zero=>simp[aq]at y X;subst y;subst X;rfl|succ j=>simp[aq]at y,λj l _ y _ k r=>by simp at r,λj J l l' _ _ _ _ _ _ k r=>by simp at r⟩
 |.bool,_,_,x,cs,bs,H,_=>by
  obtain⟨rfl,rfl⟩:=H;exact⟨λ_=>[],λV W st _ j l u _ y X=>by cases j with|zero=>simp[aq]at y X;subst y;subst X;rfl|succ j=>simp[aq]at y,λj l _ y _ k r=>by simp at r,λj J l l' _ _ _ _ _ _ k r=>by simp at r⟩
 |.str,_,_,x,cs,bs,H,_=>by
  obtain⟨rfl,rfl⟩:=H;exact⟨λ_=>[],λV W st _ j l u _ y X=>by cases j with|zero=>simp[aq]at y X;subst y;subst X;rfl|succ j=>simp[aq]at y,λj l _ y _ k r=>by simp at r,λj J l l' _ _ _ _ _ _ k r=>by simp at r⟩
 |.unit,_,_,x,cs,bs,H,_=>by
  obtain⟨rfl,rfl⟩:=H;exact⟨λ_=>[],λV W st _ j l u _ y X=>by simp[aq]at y,λj l _ y _ k r=>by simp at r,λj J l l' _ _ _ _ _ _ k r=>by simp at r⟩
 |.hdr,_,_,x,cs,bs,H,_=>by
  obtain⟨⟨A,a7,rfl⟩,rfl⟩:=H;exact⟨λ_=>[],λV W st _ j l u _ y X=>by cases j with|zero=>simp[aq]at y X;subst y;subst X;exact⟨A,a7,rfl⟩|succ j=>simp[aq]at y,λj l _ y _ k r=>by simp at r,λj J l l' _ _ _ _ _ _ k r=>by simp at r⟩
 |.pair b c,h,pos,x,cs,bs,⟨c1,c2,b1,b2,e1,e2,y,X⟩,Y=>by
  subst e1;subst e2;rw[CD]at Y;obtain⟨d1,f2,f3,f4⟩:=iY y Y.1;obtain⟨d2,g2,g3,g4⟩:=iY X Y.2.1;have a9:=cM p b x.1;have a8:=y.len;have I:∀ (j:Nat) (l:Leaf),(aq p b x.1++aq p c x.2)[j]?=some l->(j<b.cells/\(aq p b x.1)[j]?=some l)\/(b.cells<=j/\(aq p c x.2)[j-b.cells]?=some l):=by
   intro j l z;by_cases O:j<b.cells
   ·rw[Bx (by omega)]at z;exact .inl ⟨O,z⟩
   ·rw[BZ (by omega),a9]at z;exact .inr ⟨by omega,z⟩
  have a0:∀ j,b.cells<=j->h≠some (pos+j)->h≠some (pos+b.cells+(j-b.cells)):=λj z hh=>by rwa [show pos+b.cells+(j-b.cells)=pos+j by omega]
  refine⟨λj=>if j<b.cells then d1 j else d2 (j-b.cells),λV W st hG j l u hh z hu=>?_,λj l hh z ho k r=>?_,λj J l l' hh a3 z ho Z a4 k r M=>?_⟩
  ·rcases I j l z with ⟨O,z⟩|⟨a1,z⟩
   ·rw[Bx (by omega)]at hu;simp only[if_pos O];exact f2 V W st hG j l u hh z hu
   ·rw[BZ (by omega),a8]at hu;simp only[if_neg (show ¬ j<b.cells by omega)];exact g2 V W st hG _ l u (a0 j a1 hh) z hu
  ·rcases I j l z with ⟨O,z⟩|⟨a1,z⟩
   ·simp only[if_pos O]at r;exact BD _ (f3 j l hh z ho k r)
   ·simp only[if_neg (show ¬ j<b.cells by omega)]at r;exact BE _ (g3 _ l (a0 j a1 hh) z ho k r)
  ·rcases I j l z with ⟨O,z⟩|⟨a1,z⟩ <;> rcases I J l' Z with ⟨a6,Z⟩|⟨a5,Z⟩
   ·simp only[if_pos O]at r;simp only[if_pos a6]at M;exact f4 j J l l' hh a3 z ho Z a4 k r M
   ·simp only[if_pos O]at r;simp only[if_neg (show ¬ J<b.cells by omega)]at M;exact absurd rfl (Y.2.2 k (f3 j l hh z ho k r) k (g3 _ l' (a0 J a5 a3) Z a4 k M))
   ·simp only[if_neg (show ¬ j<b.cells by omega)]at r;simp only[if_pos a6]at M;exact absurd rfl (Y.2.2 k (f3 J l' a3 Z a4 k M) k (g3 _ l (a0 j a1 hh) z ho k r))
   ·simp only[if_neg (show ¬ j<b.cells by omega)]at r;simp only[if_neg (show ¬ J<b.cells by omega)]at M;have:=g4 _ _ l l' (a0 j a1 hh) (a0 J a5 a3) z ho Z a4 k r M;omega
 |.list m E e,h,pos,xs,cs,bs,H,Y=>by
  cases m with
  |false =>
   rw[cr]at H;obtain⟨rfl,A,a7,rfl,X,h3⟩:=H;refine⟨λ_=>[],λV W st hG j l u _ y h4=>?_,λj l _ y _ k r=>by simp at r,λj J l l' _ _ _ _ _ _ k r=>by simp at r⟩;cases j with
   |zero =>
    simp[aq]at y h4;subst y;subst h4;exact Rd.mono hG (⟨A,a7,rfl,X,h3⟩:Rd w G (.list false E e) xs _)
   |succ j=>simp[aq]at y
  |true =>
   refine⟨λ_=>bs,λV W st hG j l u hh y h4=>?_,λj l _ y _ k r=>r,λj J l l' _ _ y _ h3 _ k _ _=>?_⟩
   ·cases j with
    |zero =>
     rw[Nat.add_zero]at hh;rw[bK hh]at H;obtain⟨v,rfl,hO⟩:=H;simp[aq]at y h4;subst y;subst h4;exact⟨Y,OwB.shy (hO.carry hG (λ_ _=>rfl) (λ_ _=>rfl))⟩
    |succ j=>simp[aq]at y
   ·have h7:j<1:=by simpa[aq]using (BK.1 y).1
    have h8:J<1:=by simpa[aq]using (BK.1 h3).1
    omega
theorem mv {p:Bool}{off:Nat}:∀ {a:Ty} {pos:Nat} {x:a.den} {E:TypeId} {e:Ty} {xs:List e.den},bd off a pos x=some ⟨E,e,xs⟩->(aq p a x)[off-pos]?=some (.own (p&&e.shy) none E e xs)
 |.pair a b,pos,x,E,e,xs,h=>by
  have H:=cM p a x.1;simp only[bd]at h;simp only[aq];split at h
  ·rename_i u z;simp only[BA]at h;subst h;have y:=gw z;rw[Bx (by omega)];exact mv z
  ·have y:=gw h;rw[BZ (by omega),H,show off-pos-a.cells=off-(pos+a.cells) by omega];exact mv h
 |.list m J M,pos,I,E,e,xs,h=>by
  simp only[bd]at h;cases r:m&&BJ pos off with
  |false=>simp[r]at h
  |true =>
   rw[r]at h;simp only[cond_true,BA,Sigma.mk.injEq]at h;obtain⟨rfl,h⟩:=h;simp only[BC]at r;obtain⟨rfl,r⟩:=r;have r:=BH r;subst r;rw[heq_eq_eq,Sigma.mk.injEq]at h;obtain⟨rfl,h⟩:=h;rw[heq_eq_eq]at h;subst h;simp[aq]
 |.int _,_,_,_,_,_,h=>by simp[bd]at h
 |.bool,_,_,_,_,_,h=>by simp[bd]at h
 |.str,_,_,_,_,_,h=>by simp[bd]at h
 |.unit,_,_,_,_,_,h=>by simp[bd]at h
 |.hdr,_,_,_,_,_,h=>by simp[bd]at h
theorem tN (V:Env)(W:Wit)(I:V.ro0=ro)(r:V.prot=pr):∀ {cs:List (Bool×Ty)} {x:lI cs} {us:List Value},jz w ro pr cs x us->us.length=(jN true cs x).length /\
  ∀ (i:Nat) (c:Bool×Bool×(a:Ty)×a.den) (u:Value),(jN true cs x)[i]?=some c->us[i]?=some u->iK V W w c u
 |[],_,us,h=>by
  have h:us=[]:=h;subst h;exact⟨rfl,λi c u z _=>by simp[jN]at z⟩
 |c::cs,x,us,⟨u,a0,e,z,h2⟩=>by
  subst e;obtain⟨i1,i2⟩:=tN V W I r h2;refine⟨by simp[jN,i1],λi c' u' M h4=>?_⟩;cases i with
  |succ i=>exact i2 i c' u' (by simpa[jN]using M) (by simpa using h4)
  |zero =>
   simp[jN]at M h4;subst M;subst h4;have hG:∀ k,ro k->gd V W true k:=λk hk=>.inr ⟨rfl,by rw[I];exact hk⟩
   unfold iK;unfold gP at z;split at z
   ·rename_i H;simp only[H,if_true];obtain⟨b,ob,g,o,Y,Z,O,y,hg,X,J⟩:=z;exact⟨b,ob,g,o,Y,Z,.inr (by rw[r];exact O),y,.inr (by rw[r];exact hg),X.mono hG,J⟩
   ·rename_i H;have H:c.1=false:=by simpa using H
    simp only[H,CQ,if_false];obtain⟨g,o,Y,Z,hg,X,J⟩:=z;exact⟨g,o,Y,by rw[Z];rfl,.inr (by rw[r];exact hg),X.mono hG,J⟩
structure Ent where
 r:Nat
 c:bT
 cs:List Value
 bs:Nat->List Nat
 bl:List Nat
 g:Nat
structure qf (P:Program) (w:World) (ro pr:Nat->Prop) (bx:List (Nat×Nat)) (e:Ent):Prop where
 len:e.c.ls.length=e.cs.length
 one:∀ u∈e.cs,u.oneCell'=true
 leaf:∀ (V:Env) (W:Wit) (st:St),V.w0=w->V.ro0=ro->V.prot=pr->(∀ z∈bx,B0<=z.1/\(st z.1).sh=.agg/\W.β z.1=z.2)->∀ (j:Nat) (l:Leaf) (u:Value),e.c.ls[j]?=some l->e.cs[j]?=some u->aJ P V W st w (e.bs j) l u
 own:∀ (j:Nat) (l:Leaf),e.c.ls[j]?=some l->an l->∀ k∈e.bs j,k∈e.bl
 sep:∀ (j j':Nat) (l l':Leaf),e.c.ls[j]?=some l->an l->e.c.ls[j']?=some l'->an l'->∀ k,k∈e.bs j->k∈e.bs j'->j=j'
 box:B0<=e.r->e.c.sh=.agg/\e.g∈e.bl/\(∀ (j:Nat) (l:Leaf),e.c.ls[j]?=some l->an l->e.g∉e.bs j)/\(∃ E,w.heap[e.g]?=some (.cells e.cs.toArray E (0,0)))/\(e.r,e.g)∈bx
theorem qf.mono {y r:List (Nat×Nat)}{e:Ent}(h:qf P w ro pr y e)(u:∀ z∈y,z∈r):qf P w ro pr r e :=
  { len:=h.len,one:=h.one,own:=h.own,sep:=h.sep
    leaf:=λV W Z h1 I J h4=>h.leaf V W Z h1 I J (λz M=>h4 z (u z M))
    box:=λO=>by obtain⟨q1,Y,q3,H,X⟩:=h.box O;exact⟨q1,Y,q3,H,u _ X⟩ }
structure wz (P:Program) (w:World) (ro pr:Nat->Prop) (t:Nat) (pk:PK) (v:Value) (b:List Nat) (bx:List (Nat×Nat)) (es:List Ent):Prop where
 bl:es.flatMap (·.bl)=b
 ok:∀ e∈es,qf P w ro pr bx e
 at_:∀ e∈es,e.r=t\/e.r=B0+t
 nod:(es.map (·.r)).Nodup
 slot:∃ e∈es,e.r=t/\ee e.c.sh v e.cs
 bxs:∀ z∈bx,z.1=B0+t/\(∃ e∈es,e.r=B0+t/\e.g=z.2)
theorem tO (t n:Nat){a:Ty}{x:a.den}{v:Value}{cs:List Value}{b:List Nat}(M:b.Nodup)(h1:dg a.isAgg v cs)(I:Mx w ro a none 0 x cs b)(a0:t<B0) :
    ∃ Y,wz P w ro pr t (.own a) v b [] Y/\[((t,⟨n,bh a.isAgg,aq true a x⟩):Nat×bT)]=Y.map (λe=>(e.r,e.c)):=by
  obtain⟨J,m1,m2,m3⟩:=iY (P:=P) (p:=true) I M;have H:∀ j,(none:Option Nat)≠some (0+j):=λj=>by simp
  refine⟨[⟨t,⟨n,bh a.isAgg,aq true a x⟩,cs,J,b,0⟩],⟨by simp,?_,by simp,by simp,⟨_,BV _,rfl,jZ h1⟩,by simp⟩,rfl⟩;intro e Z;simp only[B6]at Z;subst Z
  exact { len := by show (aq true a x).length = _; rw [cM, I.len]
          one:=I.one
          leaf:=λV W st _ O _ _ j l u y z=>m1 V W st (λk hk=>.inr ⟨rfl,by rw[O];exact hk⟩) j l u (H j) y z
          own:=λj l y z=>m2 j l (H j) y z
          sep:=λj X l l' y z h5 h6=>m3 j X l l' (H j) (H X) y z h5 h6
          box:=λhr=>absurd hr (by show ¬ B0<=t;omega) }
theorem nS (t:Nat){l:Leaf}{v:Value}{pk:PK}(a0:t<B0)(J:¬ an l)(h1:v.oneCell'=true)(z:∀ (V:Env) (W:Wit) (st:St),V.w0=w->V.ro0=ro->V.prot=pr->aJ P V W st w [] l v) :
    ∃ Z,wz P w ro pr t pk v [] [] Z/\[((t,⟨0,.one,[l]⟩):Nat×bT)]=Z.map (λe=>(e.r,e.c)):=by
  refine⟨[⟨t,⟨0,.one,[l]⟩,[v],λ_=>[],[],0⟩],⟨by simp,?_,by simp,by simp,⟨_,BV _,rfl,rfl⟩,by simp⟩,rfl⟩;intro e he;simp only[B6]at he;subst he;have O:∀ (j:Nat) (y:Leaf),[l][j]?=some y->j=0/\y=l:=λj y Y=>by
    cases j with
    |zero=>simp at Y;exact⟨rfl,Y.symm⟩
    |succ j=>simp at Y
  exact { len := rfl
          one:=λu hu=>by simp at hu;subst hu;exact h1
          leaf:=λV W st hw X M _ j y u I H=>by
            obtain⟨rfl,rfl⟩:=O j y I;simp at H;subst H;exact z V W st hw X M
          own:=λj y I H=>by obtain⟨_,rfl⟩:=O j y I;exact absurd H J
          sep:=λj j' l1 l2 I H=>by obtain⟨_,rfl⟩:=O j l1 I;exact absurd H J
          box:=λhr=>absurd hr (by show ¬ B0<=t;omega) }
def tP:Value->Nat
 |.pointer (some a)=>a.block
 |_=>0
def d8 (t:Nat):List PK->List Value->List (Nat×Nat)
 |.iop _::r,v::u=>(B0+t,tP v)::d8 (t+1) r u
 |_::r,_::u=>d8 (t+1) r u
 |_,_=>[]
def d9 (t:Nat):List PK->List Value->List (Nat×Value)
 |.io _::r,v::u=>(t,v)::d9 (t+1) r u
 |.iop _::r,v::u=>(t,v)::d9 (t+1) r u
 |_::r,_::u=>d9 (t+1) r u
 |_,_=>[]
def PK.bx (t:Nat)(v:Value):PK->List (Nat×Nat)
 |.iop _=>[(B0+t,tP v)]
 |_=>[]
theorem Bo (t:Nat)(a0:t<B0){pk:PK}{ps:List PK}{x:ab (pk::ps)}{v:Value}{b:List Nat}(a1:b.Nodup)(h:nP P w ro pr pk x.1 v b) :
    ∃ es,wz P w ro pr t pk v b (pk.bx t v) es/\dm t (pk::ps) x=es.map (λe=>(e.r,e.c))++dm (t+1) ps x.2:=by
  cases pk with
  |rd a =>
    obtain⟨rfl,cs,h1,h2⟩:=h;refine⟨[⟨t,⟨0,bh a.isAgg,cN true a x.1⟩,cs,λ_=>[],[],0⟩],⟨by simp,?_,by simp,by simp,⟨_,BV _,rfl,jZ h1⟩,by simp[PK.bx]⟩,rfl⟩;intro e he;simp only[B6]at he;subst he;have a7:∀ (V:Env) (W:Wit) (st:St),V.ro0=ro->aB P V W st w (cN true a x.1) cs:=λV W st I=>eT (G:=ro) (λk J=>.inr ⟨rfl,by rw[I];exact J⟩) h2
    have b5:∀ (j:Nat) (l:Leaf),(cN true a x.1)[j]?=some l->¬ an l:=λj l M=>by
      have hl:=gJ true a x.1;have hc:=h2.len;have bb:=(BK.1 M).1;exact ((a7 ⟨w,ro,[],0,[],[]⟩ ⟨λ_=>0,λ_=>[],λ_ _=>[],λ_=>False⟩ (λ_=>bT.none) rfl).at_ j l _ M (BR (by omega))).2.1
    exact { len := by show (cN true a x.1).length = _; rw [gJ, h2.len]
            one:=h2.one
            leaf:=λV W st _ I _ _ j l u y H=>((a7 V W st I).at_ j l u y H).1
            own:=λj l y H=>absurd H (b5 j l y)
            sep:=λj j' l l' y H=>absurd H (b5 j l y)
            box:=λhr=>absurd hr (by show ¬ B0<=t;omega) }
  |own a =>
    obtain⟨cs,h1,h2⟩:=h;obtain⟨es,y,H⟩:=tO (P:=P) (pr:=pr) t 0 a1 h1 h2 a0;exact⟨es,⟨y.bl,y.ok,y.at_,y.nod,y.slot,y.bxs⟩,by rw[<- H];rfl⟩
  |io a =>
    obtain⟨cs,h1,h2⟩:=h;obtain⟨es,y,H⟩:=tO (P:=P) (pr:=pr) t 7 a1 h1 h2 a0;exact⟨es,⟨y.bl,y.ok,y.at_,y.nod,y.slot,y.bxs⟩,by rw[<- H];rfl⟩
  |rref a =>
    obtain⟨rfl,h⟩:=h;unfold gP at h;rw[if_neg (by simp)]at h;obtain⟨g,o,c,hv,hg,hr,hc⟩:=h;subst hv;obtain⟨es,y,H⟩:=nS (P:=P) (w:=w) (ro:=ro) (pr:=pr) t (pk:=.rref a) (l:=.rp true a x.1 0) (v:=.pointer (some ⟨g,o,none⟩)) a0 id rfl (λV W st hw I X=>⟨g,o,c,rfl,.inr (by rw[X];exact hg),hr.mono (λk J=>.inr ⟨rfl,by rw[I];exact J⟩),hc⟩);exact⟨es,y,by rw[<- H];rfl⟩
  |rref2 a =>
    obtain⟨rfl,h⟩:=h;unfold gP at h;rw[if_pos rfl]at h;obtain⟨b,ob,g,o,c,hv,hb,a6,hg,hr,hc⟩:=h;subst hv;obtain⟨es,y,H⟩:=nS (P:=P) (w:=w) (ro:=ro) (pr:=pr) t (pk:=.rref2 a) (l:=.rpp true a x.1) (v:=.pointer (some ⟨b,ob,none⟩)) a0 id rfl (λV W st hw I X=>⟨b,ob,g,o,c,rfl,.inr (by rw[X];exact hb),a6,.inr (by rw[X];exact hg),hr.mono (λk J=>.inr ⟨rfl,by rw[I];exact J⟩),hc⟩);exact⟨es,y,by rw[<- H];rfl⟩
  |fn As B =>
    obtain⟨rfl,h⟩:=h;have b9:v.oneCell'=true:=by
      obtain⟨f,ba,e,_⟩:=h;rw[e];rfl
    obtain⟨es,y,H⟩:=nS (P:=P) (w:=w) (ro:=ro) (pr:=pr) t (pk:=.fn As B) (l:=.fn As B x.1) (v:=v) a0 id b9 (λV W st hw I X=>by
      show ia P V.w0 V.prot As B x.1 v;rw[hw,X];exact h)
    exact⟨es,y,by rw[<- H];rfl⟩
  |clo f cs =>
    obtain⟨rfl,us,e,h⟩:=h;subst e;obtain⟨es,y,H⟩:=nS (P:=P) (w:=w) (ro:=ro) (pr:=pr) t (pk:=.clo f cs) (l:=.clr f (jN true cs x.1)) (v:=.func (.func f) #[] us.toArray) a0 id rfl (λV W st hw I X=>by
      obtain⟨i1,i2⟩:=tN V W I X h;exact⟨us,rfl,i1,i2⟩)
    exact⟨es,y,by rw[<- H];rfl⟩
  |iop a =>
    obtain⟨g,c,E,b0,hv,hg,hm,rfl⟩:=h;subst hv;rw[B7]at a1;obtain⟨a5,m1,m2,m3⟩:=iY (P:=P) (p:=true) hm a1.2;have hn:∀ j,(none:Option Nat)≠some (0+j):=λj=>by simp
    have Y:t≠B0+t:=by simp[B0]
    refine⟨[⟨t,⟨0,.one,[.bp (B0+t) 0]⟩,[.pointer (some ⟨g,0,none⟩)],λ_=>[],[],0⟩,⟨B0+t,⟨0,.agg,aq true a x.1⟩,c,a5,g::b0,g⟩],
      ⟨by simp,?_,λe he=>by simp at he;rcases he with rfl|rfl <;> simp,by rw[BY,BY,C7,B7];exact⟨by simpa using Y,by simp⟩,⟨_,BG ..,rfl,rfl⟩,λz hz=>?_⟩,rfl⟩
    · intro e he
      simp only[BO,List.not_mem_nil,or_false]at he;rcases he with rfl|rfl
      · have h0:∀ (j:Nat) (l':Leaf),[Leaf.bp (B0+t) 0][j]?=some l'->j=0/\l'=.bp (B0+t) 0:=λj l' M=>by
          cases j with
          |zero=>simp at M;exact⟨rfl,M.symm⟩
          |succ j=>simp at M
        exact { len := rfl
                one:=λu hu=>by simp at hu;subst hu;rfl
                leaf:=λV W st hw I X hb j l' u y H=>by
                  obtain⟨rfl,rfl⟩:=h0 j l' y;simp at H;subst H;obtain⟨q1,q2,q3⟩:=hb (B0+t,g) (BV _);exact⟨q1,q2,by rw[q3]⟩
                own:=λj l' y H=>by obtain⟨_,rfl⟩:=h0 j l' y;exact H.elim
                sep:=λj j' l1 l2 y H=>by obtain⟨_,rfl⟩:=h0 j l1 y;exact H.elim
                box:=λhr=>absurd hr (by show ¬ B0<=t;omega) }
      · exact { len := by show (aq true a x.1).length = _; rw [cM, hm.len]
                one:=hm.one
                leaf:=λV W st _ I _ _ j l u y H=>m1 V W st (λk J=>.inr ⟨rfl,by rw[I];exact J⟩) j l u (hn j) y H
                own:=λj l y H k J=>BF _ (m2 j l (hn j) y H k J)
                sep:=λj j' l l' y H h5 h6=>m3 j j' l l' (hn j) (hn j') y H h5 h6
                box:=λ_=>⟨rfl,BG ..,λj l y H J=>a1.1 (m2 j l (hn j) y H g J),⟨E,hg⟩,BV _⟩ }
    · simp only[PK.bx,B6]at hz
      subst hz;exact⟨rfl,_,BF _ (BV _),rfl,rfl⟩
  |hol a c off =>
    obtain⟨cs,u,b0,b1,E,e,xs,h1,h2,y,H,h5,h6⟩:=h;have a2:=bu.1 a1;have a8:b0.Nodup:=bu.2 λk=>by have:=a2 k;have:=h6 k;omega
    have a9:b1.Nodup:=bu.2 λk=>by have:=a2 k;have:=h6 k;omega
    have a4:∀ k,k∈b0->k∉b1:=λk J Z=>by
      have:=a2 k;have:=h6 k;have:=BW.2 J;have:=BW.2 Z;omega
    have ad:∀ k∈b0,k∈b:=λk J=>BW.1 (by have:=h6 k;have:=BW.2 J;omega)
    have b2:∀ k∈b1,k∈b:=λk J=>BW.1 (by have:=h6 k;have:=BW.2 J;omega)
    obtain⟨a5,m1,m2,m3⟩:=iY (P:=P) (p:=true) h2 a8;have Y:∀ j,j≠c->(some c:Option Nat)≠some (0+j):=λj M=>by simp;omega
    have b3:=mv (p:=true) H;rw[Nat.sub_zero]at b3;have b6:(aq true a x.1.1).getD c .dead=.own (true&&e.shy) none E e xs:=by rw[BP,b3];rfl
    refine⟨[⟨t,⟨0,bh a.isAgg,aR (aq true a x.1.1) c (.own (true&&e.shy) (some (x.1.2,off)) E e xs)⟩,cs,λj=>if j=c then b1 else a5 j,b,0⟩],
      ⟨by simp,?_,by simp,by simp,⟨_,BV _,rfl,jZ h1⟩,by simp[PK.bx]⟩,?_⟩
    · intro en he
      simp only[B6]at he;subst he;have O:∀ (j:Nat) (l:Leaf),(aR (aq true a x.1.1) c (.own (true&&e.shy) (some (x.1.2,off)) E e xs))[j]?=some l->(j=c/\l=.own (true&&e.shy) (some (x.1.2,off)) E e xs)\/(j≠c/\(aq true a x.1.1)[j]?=some l):=by
        intro j l M;rcases aQ _ _ _ _ _ M with ⟨q1,q2,_⟩|⟨q1,q2⟩
        · exact .inl ⟨q1,q2⟩
        · exact .inr ⟨q1,q2⟩
      exact { len := by show (aR (aq true a x.1.1) c _).length = _; simp only [aR, List.length_set]; rw [cM, h2.len]
              one:=h2.one
              leaf:=λV W st _ I _ _ j l u' h7 h8=>by
                have h8:cs[j]?=some u':=h8;rcases O j l h7 with ⟨rfl,rfl⟩|⟨M,h7⟩
                · rw[y]at h8
                  simp only[BA]at h8;subst h8;simp only[if_true];exact⟨a9,OwB.shy (p:=true) (h5.carry (λk J=>.inr ⟨rfl,by rw[I];exact J⟩) (λ_ _=>rfl) (λ_ _=>rfl))⟩
                · simp only[if_neg M]
                  exact m1 V W st (λk J=>.inr ⟨rfl,by rw[I];exact J⟩) j l u' (Y j M) h7 h8
              own:=λj l h7 h8 k J=>by
                rcases O j l h7 with ⟨rfl,rfl⟩|⟨M,h7⟩
                · simp only[if_true]at J;exact b2 k J
                · simp only[if_neg M]at J;exact ad k (m2 j l (Y j M) h7 h8 k J)
              sep:=λj j' l l' h7 h8 h9 b4 k J Z=>by
                rcases O j l h7 with ⟨rfl,rfl⟩|⟨M,h7⟩ <;> rcases O j' l' h9 with ⟨rfl,rfl⟩|⟨a3,h9⟩
                · rfl
                · simp only[if_true]at J;simp only[if_neg a3]at Z
                  exact absurd J (a4 k (m2 j' l' (Y j' a3) h9 b4 k Z))
                · simp only[if_neg M]at J;simp only[if_true]at Z
                  exact absurd Z (a4 k (m2 j l (Y j M) h7 h8 k J))
                · simp only[if_neg M]at J;simp only[if_neg a3]at Z
                  exact m3 j j' l l' (Y j M) (Y j' a3) h7 h8 h9 b4 k J Z
              box:=λhr=>absurd hr (by show ¬ B0<=t;omega) }
    · show (t,(⟨0,bh a.isAgg,aR (aq true a x.1.1) c (uz x.1.2 off ((aq true a x.1.1).getD c .dead))⟩:bT))::dm (t+1) ps x.2=_
      rw[b6];rfl
theorem tQ:∀ {ps:List PK} {x:ab ps} {u:List Value} {r:List (List Nat)},db P w ro pr ps x u r->u.length=ps.length
 |[],_,_,_,h=>by rw[h.1];rfl
 |_::_,_,_,_,⟨_,_,_,_,e,_,_,h⟩=>by rw[e,CC,CC,tQ h]
theorem ve:∀ (ps:List PK) (x:ab ps) (Z:List Value) (H:List (List Nat)) (t:Nat),db P w ro pr ps x Z H->H.flatten.Nodup->t+ps.length<=B0 ->
  ∃ M:List Ent,dm t ps x=M.map (λe=>(e.r,e.c))/\M.flatMap (·.bl)=H.flatten/\(∀ e∈M,qf P w ro pr (d8 t ps Z) e) /\
   (∀ e∈M,(t<=e.r/\e.r<t+ps.length)\/(B0+t<=e.r/\e.r<B0+t+ps.length))/\(M.map (·.r)).Nodup /\
   (∀ (i:Nat) (v:Value),Z[i]?=some v->∃ e∈M,e.r=t+i/\ee e.c.sh v e.cs)/\(∀ z∈d8 t ps Z,∃ e∈M,e.r=z.1/\e.g=z.2/\B0<=z.1)
 |[],x,Z,H,t,⟨e1,e2⟩,_,_=>by
  subst e1;subst e2;exact⟨[],rfl,rfl,by simp,by simp,by simp,λi v h=>by simp at h,by simp[d8]⟩
 |pk::ps,x,Z,H,t,⟨v,Y,b,a1,e1,e2,h1,h2⟩,J,hB=>by
  subst e1;subst e2;rw[BQ,CD]at J;simp only[CC]at hB;obtain⟨a5,O,p2⟩:=Bo t (by omega) (ps:=ps) (x:=x) J.1 h1;obtain⟨a4,q1,q2,q3,q4,q5,q6,q7⟩:=ve ps x.2 Y a1 (t+1) h2 J.2.1 (by omega);have a0:d8 t (pk::ps) (v::Y)=pk.bx t v++d8 (t+1) ps Y:=by cases pk <;> rfl
  refine⟨a5++a4,by rw[p2,q1,CO],by rw[List.flatMap_append,O.bl,q2,BQ],λe y=>?_,λe y=>?_,?_,λi u hi=>?_,λz I=>?_⟩
  ·rw[a0];rcases BB.1 y with y|y
   ·exact (O.ok e y).mono (λz I=>BD _ I)
   ·exact (q3 e y).mono (λz I=>BE _ I)
  ·simp only[CC];rcases BB.1 y with y|y
   ·rcases O.at_ e y with h|h <;> omega
   ·rcases q4 e y with h|h <;> omega
  ·rw[CO,CD];refine⟨O.nod,q5,λa ha b' a2 e0=>?_⟩;subst e0;obtain⟨e,y,rfl⟩:=BL.1 ha;obtain⟨e',a3,e1⟩:=BL.1 a2;rcases O.at_ e y with h|h <;> rcases q4 e' a3 with h'|h' <;> omega
  ·cases i with
   |zero =>
    simp at hi;subst hi;obtain⟨e,y,h3,X⟩:=O.slot;exact⟨e,BD _ y,by omega,X⟩
   |succ i =>
    obtain⟨e,y,h3,X⟩:=q6 i u (by simpa using hi);exact⟨e,BE _ y,by omega,X⟩
  ·rw[a0]at I;rcases BB.1 I with I|I
   ·obtain⟨h3,e,y,X,h5⟩:=O.bxs z I;exact⟨e,BD _ y,by rw[X,h3],h5,by rw[h3];exact Nat.le_add_right _ _⟩
   ·obtain⟨e,y,X,h5,h6⟩:=q7 z I;exact⟨e,BE _ y,X,h5,h6⟩
def fY (w:World)(ro:Nat->Prop)(ps:List PK)(u:List Value)(r:List (List Nat))(nt:Nat):Env:=⟨w,ro,r.flatten,nt,d8 0 ps u,d9 0 ps u⟩
theorem nT:∀ {I:List Ent},(I.flatMap (·.bl)).Nodup->∀ e∈I,∀ H∈I,∀ k,k∈e.bl->k∈H.bl->e=H
 |[],_,e,O,_,_,_,_,_=>by simp at O
 |x::I,u,e,O,H,M,k,J,r=>by
  rw[List.flatMap_cons,CD]at u;rcases BO.1 O with y|y <;> rcases BO.1 M with z|z
  ·rw[y,z]
  ·rw[y]at J;exact absurd rfl (u.2.2 k J k (BT.2 ⟨H,z,r⟩))
  ·rw[z]at r;exact absurd rfl (u.2.2 k r k (BT.2 ⟨e,y,J⟩))
  ·exact nT u.2.1 e y H z k J r
theorem xW:∀ {I:List Ent},(I.map (·.r)).Nodup->∀ e∈I,∀ z∈I,e.r=z.r->e=z
 |[],_,e,O,_,_,_=>by simp at O
 |x::I,u,e,O,z,J,M=>by
  rw[BY,B7]at u;rcases BO.1 O with y|y <;> rcases BO.1 J with H|H
  ·rw[y,H]
  ·exact absurd (BL.2 ⟨z,H,by rw[<- M,y]⟩) u.1
  ·exact absurd (BL.2 ⟨e,y,by rw[M,H]⟩) u.1
  ·exact xW u.2 e y z H M
theorem rJ:∀ (u:List Ent) (q:Nat),(av (u.map λe=>(e.r,e.c)) q=bT.none/\u.find? (λe=>e.r==q)=none)\/∃ e∈u,e.r=q/\u.find? (λe=>e.r==q)=some e/\av (u.map λe=>(e.r,e.c)) q=e.c
 |[],q=>.inl ⟨rfl,rfl⟩
 |e::u,q=>by
  by_cases h:e.r=q
  ·refine .inr ⟨e,BG ..,h,by simp[h],?_⟩;simp[av,ac,h]
  ·have z:BJ q e.r=false:=by
    cases z:BJ q e.r with
    |false=>rfl
    |true=>exact absurd (BH z).symm h
   have J:av ((e::u).map λe=>(e.r,e.c)) q=av (u.map λe=>(e.r,e.c)) q:=by simp[av,ac,z]
   have H:(e::u).find? (λe=>e.r==q)=u.find? (λe=>e.r==q):=by simp[h]
   rw[J,H];rcases rJ u q with y|⟨O,y,I,X,M⟩
   ·exact .inl y
   ·exact .inr ⟨O,BF _ y,I,X,M⟩
theorem vf:∀ {ps:List PK} {r:List Value} {t:Nat} {z:Nat×Value},z∈d9 t ps r->∃ i,z.1=t+i/\r[i]?=some z.2
 |[],_,_,_,h=>by simp[d9]at h
 |u::ps,[],_,_,h=>by cases u <;> simp[d9]at h
 |u::ps,v::r,t,z,h=>by
  have:z=(t,v)\/z∈d9 (t+1) ps r:=by cases u <;> simp[d9]at h <;> first|exact h|exact .inr h
  rcases this with rfl|h
  ·exact⟨0,rfl,rfl⟩
  ·obtain⟨i,H,y⟩:=vf h;exact⟨i+1,by omega,by simpa using y⟩
theorem vg {ps:List PK}{x:ab ps}{M:List Value}{J:List (List Nat)}{nt:Nat}(h:db P w ro (λk=>k<w.heap.size/\k∉J.flatten) ps x M J)(a5:J.flatten.Nodup)
  (c1:ps.length<=nt) (hB:nt<=GH):Rel P (fY w ro ps M J nt) (av (dm 0 ps x)) { tmps:=M.toArray++B8 (nt-M.length) undef,defers:=[] } w:=by
 have c0:=tQ h;have c2:GH<=B0:=by decide
 obtain⟨X,q1,q2,q3,q4,q5,q6,q7⟩:=ve ps x M J 0 h a5 (by omega);rw[q1];have b9:=rJ X;have a3:∀ e∈X,∀ H∈X,e.r=H.r->e=H:=by
  intro e he H b4 hr;exact xW q5 e he H b4 hr
 rw[<- q2]at a5;have a0:∀ e∈X,∀ k∈e.bl,k∈J.flatten:=λe he k hk=>by rw[<- q2];exact BT.2 ⟨e,he,hk⟩
 have hE:∀ q,(av (X.map λe=>(e.r,e.c)) q=bT.none/\X.find? (λe=>e.r==q)=none)\/∃ e∈X,e.r=q/\X.find? (λe=>e.r==q)=some e/\av (X.map λe=>(e.r,e.c)) q=e.c:=b9;have a1:∀ q,live (av (X.map λe=>(e.r,e.c))) q->∃ e∈X,e.r=q/\B0<=e.r/\X.find? (λe=>e.r==q)=some e:=by
  rintro q ⟨h1,h2⟩;rcases hE q with ⟨I,_⟩|⟨e,I,y,h5,O⟩
  ·rw[I]at h2;cases h2
  ·exact⟨e,I,y,by rw[y];exact h1,h5⟩
 let β:Nat->Nat:=λq=>match X.find? (λe=>e.r==q) with|some e=>e.g|none=>0
 let cs:Nat->List Value:=λq=>match X.find? (λe=>e.r==q) with|some e=>e.cs|none=>[]
 let bs:Nat->Nat->List Nat:=λq j=>match X.find? (λe=>e.r==q) with|some e=>e.bs j|none=>[]
 have a7:∀ z∈d8 0 ps M,B0<=z.1/\(av (X.map λe=>(e.r,e.c)) z.1).sh=.agg/\β z.1=z.2:=by
  intro z hz;obtain⟨e,he,h1,h2,I⟩:=q7 z hz;refine⟨I,?_⟩;rcases hE z.1 with ⟨_,y⟩|⟨H,y,h5,O,Z⟩
  ·exfalso;rw[Cr]at y;exact y e he (by simp[h1])
  ·have:H=e:=a3 H y e he (by rw[h5,h1]);subst this;rw[Z];exact⟨((q3 H he).box (by rw[h1];exact I)).1,by simp only[β,O];exact h2⟩
 refine⟨{ β:=β,cs:=cs,bs:=bs,nw:=λ_=>False },?_⟩;have bx:(fY w ro ps M J nt).prot=λk=>k<w.heap.size/\k∉J.flatten:=rfl
 exact {
  nt:=by show (M.toArray++B8 (nt-M.length) undef).size=nt;simp;omega
  df:=rfl
  slots:=λt ht=>by
   show ee _ ((M.toArray++B8 (nt-M.length) undef).getD t undef) (cs t);by_cases hq:t<ps.length
   ·have hv:=BR (show t<M.length by omega);have:(M.toArray++B8 (nt-M.length) undef).getD t undef=M[t]:=by
     rw[BN,CT (by simp;omega)];simp[hv]
    rw[this];obtain⟨e,he,h1,h2⟩:=q6 t _ hv;rw[CG]at h1;rcases hE t with ⟨_,y⟩|⟨H,y,h5,O,Z⟩
    ·exfalso;rw[Cr]at y;exact y e he (by simp[h1])
    ·have:H=e:=a3 H y e he (by rw[h5,h1]);subst this;rw[Z];simp only[cs,O];exact h2
   ·rcases hE t with ⟨I,y⟩|⟨H,y,h5,O,Z⟩
    ·rw[I];simp only[cs,y];rfl
    ·rcases q4 H y with h8|h8 <;> omega
  boxes:=λb hb=>by
   rcases hE b with ⟨I,y⟩|⟨H,y,h5,O,Z⟩
   ·rw[I];exact .inl ⟨rfl,rfl⟩
   ·obtain⟨g1,g2,g3,⟨E,g4⟩,g5⟩:=(q3 H y).box (by rw[h5];exact hb);rw[Z];exact .inr ⟨g1,E,by simp only[β,cs,O];exact g4⟩
  len:=λq=>by
   rcases hE q with ⟨I,y⟩|⟨H,y,h5,O,Z⟩
   ·rw[I];simp only[cs,y];rfl
   ·rw[Z];simp only[cs,O];exact (q3 H y).len
  one:=λq u hu=>by
   have hu:u∈cs q:=hu;rcases hE q with ⟨I,y⟩|⟨H,y,h5,O,Z⟩
   ·simp only[cs,y]at hu;simp at hu
   ·simp only[cs,O]at hu;exact (q3 H y).one u hu
  leaf:=λq j l v Y hv=>by
   have hv:(cs q)[j]?=some v:=hv;rcases hE q with ⟨I,y⟩|⟨H,y,h5,O,Z⟩
   ·rw[I]at Y;simp[bT.none]at Y
   ·rw[Z]at Y;simp only[cs,O]at hv;show aJ P _ _ _ w (bs q j) l v;simp only[bs,O];exact (q3 H y).leaf (fY w ro ps M J nt) _ _ rfl rfl rfl a7 j l v Y hv
  ownb:=λq j l Y ho k hk=>by
   have hk:k∈bs q j:=hk;rcases hE q with ⟨I,y⟩|⟨H,y,h5,O,Z⟩
   ·rw[I]at Y;simp[bT.none]at Y
   ·rw[Z]at Y;simp only[bs,O]at hk;have b0:=(q3 H y).own j l Y ho k hk;refine⟨id,λhp=>hp.2 (a0 H y k b0),λb hb e0=>?_⟩;obtain⟨e2,g1,g2,g3,g4⟩:=a1 b hb;have a6:=(q3 e2 g1).box g3;have e0:β b=k:=e0;simp only[β,g4]at e0;have:=nT a5 H y e2 g1 k b0 (by rw[<- e0];exact a6.2.1);subst this;exact a6.2.2.1 j l Y ho (by rw[e0];exact hk)
  sep:=λq j l q' j' l' Y ho a2 a9 k hk a4=>by
   have hk:k∈bs q j:=hk;have a4:k∈bs q' j':=a4;rcases hE q with ⟨I,y⟩|⟨e1,y,h5,O,Z⟩
   ·rw[I]at Y;simp[bT.none]at Y
   ·rcases hE q' with ⟨b1,a8⟩|⟨e2,a8,b5,bb,b3⟩
    ·rw[b1]at a2;simp[bT.none]at a2
    ·rw[Z]at Y;rw[b3]at a2;simp only[bs,O]at hk;simp only[bs,bb]at a4;have:=nT a5 e1 y e2 a8 k ((q3 e1 y).own j l Y ho k hk) ((q3 e2 a8).own j' l' a2 a9 k a4);subst this;exact⟨by rw[<- h5,<- b5],(q3 e1 y).sep j j' l l' Y ho a2 a9 k hk a4⟩
  box:=λb hb=>by
   obtain⟨e2,g1,g2,g3,g4⟩:=a1 b hb;have a6:=(q3 e2 g1).box g3;refine⟨id,λhp=>hp.2 ?_⟩;show β b∈_;simp only[β,g4];exact a0 e2 g1 _ a6.2.1
  inj:=λb b' hb bn e0=>by
   obtain⟨e1,g1,g2,g3,g4⟩:=a1 b hb;obtain⟨e2,ad,b2,ba,b6⟩:=a1 b' bn;have e0:β b=β b':=e0;simp only[β,g4,b6]at e0;have:=nT a5 e1 g1 e2 ad e1.g ((q3 e1 g1).box g3).2.1 (by rw[e0];exact ((q3 e2 ad).box ba).2.1);subst this;rw[<- g2,<- b2]
  nwlt:=λk hk=>hk.elim
  os:=rfl,tape:=rfl,output:=rfl,size:=Cg _,keep:=λ_ _=>rfl
  fixb:=λz hz=>by
   obtain⟨h1,h2,I⟩:=a7 z hz;exact⟨⟨h1,h2⟩,I⟩
  fixt:=λz hz=>by
   obtain⟨i,h1,h2⟩:=vf hz;rw[CG]at h1;show (M.toArray++B8 (nt-M.length) undef).getD z.1 undef=z.2;rw[h1,BN,CT (by simpa using (BK.1 h2).1)];simp[h2] }
end
section
variable {P:Program} {V:Env} {W:Wit} {Γ:List Ctr} {T:TypeId->TI} {R:Type} {st:St} {a:Act} {w:World} {ro:Nat->Prop}
theorem Bp (hT:TOk P T)(h:ap P V W st a w)(x:ResultVar)(y:pj st T x≠.off) :
  ∃ v X,(match x with|.tmp t=>(pure (a.tmps.getD t undef):Sem Value)|.cell b t=>(do loadVar t (<- asAddr (a.tmps.getD b undef)):Sem Value)).run P w=.ok v w /\
   ee (pj st T x) v X/\aB P V W st w (vj st T x) X:=by
 cases x with
 |tmp t =>
  obtain⟨X,h1,M⟩:=cX h (.tmp t);exact⟨_,X,rfl,h1,M⟩
 |cell t u =>
  simp only[pj]at y ⊢;split at y
  ·rename_i b off Z;cases J:decide ((st b).sh=.agg)&&Ci (off+(T u).cells) (st b).ls.length&&!BJ (T u).cells 0 with
   |false=>rw[J]at y;exact absurd rfl y
   |true =>
    simp only[Z,J,cond_true,vj];simp only[BC,decide_eq_true_eq,CA]at J;obtain⟨⟨h1,M⟩,h3⟩:=J;have M:off+(T u).cells<=(st b).ls.length:=Bz M;have a0:T u≠.none:=by
     intro e;rw[e]at h3;simp[TI.cells]at h3
    obtain⟨hp,_,_,_,_⟩:=bt h (.tmp t) (by rw[Z];simp);rw[Z]at hp;obtain⟨hB,Y,I⟩:=hp;have I:a.tmps.getD t undef=.pointer (some ⟨W.β b,off,none⟩):=I;rcases h.boxes b hB with ⟨O,_⟩|⟨_,E,O⟩
    ·rw[Y]at O;cases O
    ·have r:cZ w (W.β b) 0 (W.cs b):=λi v I=>by
      rw[CG,cell_of_row w (W.β b) i _ E (0,0) O];simpa using I
     have a2:=h.len b;have H:=r.sub off (T u).cells;rw[CG]at H;obtain⟨v,z,a1⟩:=nY (hT u) a0 H (by simp;omega);refine⟨v,_,?_,a1,((iv h b).drop off).take _⟩;simp only[I];simpa[asAddr]using z
  ·exact absurd rfl y
def ny (a:Act):ResultVar->Sem Value
 |.tmp t=>pure (a.tmps.getD t undef)
 |.cell b t=>do loadVar t (<- asAddr (a.tmps.getD b undef))
def nz (P:Program)(a:Act)(w:World):List ResultVar->List Value->Prop
 |[],u=>u=[]
 |x::y,u=>∃ v r,u=v::r/\(ny a x).run P w=.ok v w/\nz P a w y r
theorem rK:∀ (l:List ResultVar) (u:List Value),nz P a w l u->(l.mapM (ny a)).run P w=.ok u w
 |[],_,h=>by rw[show _=_ from h];rfl
 |x::l,_,⟨v,r,e,y,z⟩=>by subst e;simp[Ch,y,rK l r z]
theorem Au (b:Bool):bh b≠.off:=by cases b <;> simp[bh]
def RK.isBox:RK->Bool
 |.box _=>true
 |_=>false
theorem tR (hV:ay V)(hT:TOk P T)(h:ap P V W st a w)(a7:V.ro0=ro){fx:List Nat}:∀ (rs:List RK) (H:List ResultVar) (y:cO (ai rs)),kb st T fx rs H=some y ->
  ∀ {G:Nat->Prop},(∀ k,bm V W y.p y.frz k->G k) ->
  ∃ (us:List Value) (I:List (List Nat)) (bx:List Nat),nz P a w H us/\gx w G ro rs y.val us I/\(∀ k,I.flatten.count k=(aW W y.kill).count k+(bx.map W.β).count k) /\
   (∀ b∈bx,live st b/\fx.any (BJ b)=false)/\bx.length=rs.countP RK.isBox/\(∀ z∈y.frz,aA st z)/\∀ z∈y.kill,aA st z
 |[],[],y,J,G,hG=>by
  simp only[kb,BA]at J;subst J;exact⟨[],[],[],rfl,⟨rfl,rfl⟩,λk=>by simp[aW],by simp,rfl,by simp,by simp⟩
 |[],_::_,_,J,_,_=>by simp[kb]at J
 |_::_,[],_,J,_,_=>by simp[kb]at J
 |r::rs,x::H,y,J,G,hG=>by
  simp only[kb]at J;cases O:decide (pj st T x=r.sh) with
  |false=>simp[O]at J
  |true =>
   simp only[O,cond_true]at J;have O:=of_decide_eq_true O;split at J
   ·rename_i X y2 u b2;simp only[BA]at J;subst J;obtain⟨v,a3,a8,M,Y⟩:=Bp hT h x (by rw[O];cases r <;> simp only[RK.sh] <;> first|exact Au _|simp);rw[O]at M;have a0:∀ k,bm V W X.p X.frz k->G k:=λk hk=>hG k (dR.1 k hk)
    have ad:∀ k,bm V W y2.p y2.frz k->G k:=λk hk=>hG k (dR.2 k hk)
    obtain⟨us,I,bx,i1,i2,i3,i4,i5,i6,i7⟩:=tR hV hT h a7 rs H y2 b2 ad;have a1:(ny a x).run P w=.ok v w:=by cases x <;> exact a8
    have a2:∀ (b:List Nat) (Z:List Nat),pX w G ro r X.val v b->(∀ k,b.count k=(aW W X.kill).count k+(Z.map W.β).count k)->(∀ b∈Z,live st b/\fx.any (BJ b)=false)->Z.length=(if r.isBox then 1 else 0)->(∀ z∈X.frz,aA st z)->(∀ z∈X.kill,aA st z) ->
      ∃ (us:List Value) (I:List (List Nat)) (bx:List Nat),nz P a w (x::H) us/\gx w G ro (r::rs) (X.val,y2.val) us I/\(∀ k,I.flatten.count k=(aW W (X.kill++y2.kill)).count k+(bx.map W.β).count k) /\
       (∀ b∈bx,live st b/\fx.any (BJ b)=false)/\bx.length=(r::rs).countP RK.isBox/\(∀ z∈X.frz++y2.frz,aA st z)/\∀ z∈X.kill++y2.kill,aA st z:=by
     intro b Z f1 f2 f3 f4 f5 f6;refine⟨v::us,b::I,Z++bx,⟨v,us,rfl,a1,i1⟩,⟨v,us,b,I,rfl,rfl,f1,i2⟩,λk=>?_,λz hz=>(BB.1 hz).elim (f3 z) (i4 z),?_,λz hz=>(BB.1 hz).elim (f5 z) (i6 z),λz hz=>(BB.1 hz).elim (f6 z) (i7 z)⟩
     ·rw[BQ,BU,f2 k,i3 k,dL,BU,CO,BU];omega
     ·rw[List.length_append,f4,i5,Cx];cases r.isBox <;> simp <;> omega
    cases r with
    |v b =>
     simp only[rZ]at u;obtain⟨g1,g2,g3⟩:=dP (pos:=0) h Y u;exact a2 (aW W X.kill) [] ⟨a3,gy M,g1.mono a0⟩ (λk=>by simp) (by simp) rfl g2 g3
    |bv b =>
     simp only[rZ,BI]at u;obtain⟨⟨p,z⟩,hz,rfl⟩:=u;have g1:=ey h Y hz;refine a2 [] [] ⟨rfl,a3,gy M,g1.mono λk hk=>?_⟩ (λk=>by simp[aW]) (by simp) rfl (λz hz=>ei Y hz) (by simp);rcases hk with (hk|⟨_,hk⟩)|hk
     ·exact .inl (a0 k (.inl (.inl hk)))
     ·exact .inr (by rw[<- a7];exact hk)
     ·exact .inl (a0 k (.inr hk))
    |box b =>
     simp only[rZ]at u;split at u
     ·rename_i b0 b1;cases a4:!(fx.any (BJ b0)) with
      |false=>rw[a4]at u;cases u
      |true =>
       rw[a4]at u;simp only[cond_true]at u;have M:a3=[v]:=M;subst M;rw[b1]at Y;obtain⟨hB,a6,a9⟩:=Y.1.1;obtain⟨g1,g2,g3⟩:=dP (pos:=0) h (iv h b0) u;rcases h.boxes b0 hB with ⟨h8,_⟩|⟨_,E,h8⟩
       ·rw[a6]at h8;cases h8
       ·exact a2 (W.β b0::aW W X.kill) [b0] ⟨W.β b0,W.cs b0,E,_,a9,h8,g1.mono a0,rfl⟩ (λk=>by
         rw[CP,BY,C7,CP,List.count_nil];omega) (λb' a5=>by
         simp at a5;subst a5;exact⟨⟨hB,a6⟩,by simpa using a4⟩) rfl g2 g3
     ·cases u
   ·cases J
theorem mw (hV:ay V)(h:ap P V W st a w){w0:World}{pr:Nat->Prop}(a3:V.nt<=GH):∀ (ps:List PK) (x:ab ps) (vs:List Value) (a6:List (List Nat)) (t:Nat) (o:cO (ah ps)),db P w0 ro pr ps x vs a6->hY st t ps=some o->t+ps.length<=V.nt ->
  (∀ z∈d9 t ps vs,a.tmps.getD z.1 undef=z.2)->(∀ z∈d8 t ps vs,live st z.1/\W.β z.1=z.2)->∀ {G:Nat->Prop},(∀ k,bm V W o.p o.frz k->G k) ->
  ∃ r,bM w G ps o.val vs r/\(∀ k,r.flatten.count k=(aW W o.kill).count k+((bH t ps).map W.β).count k)/\(∀ z∈o.frz,aA st z)/\(∀ z∈o.kill,aA st z)/\∀ b∈bH t ps,live st b
 |[],x,vs,a6,t,o,⟨e1,e2⟩,y,_,_,_,G,hG=>by
  simp only[hY,BA]at y;subst y;subst e1;exact⟨[],trivial,λk=>by simp[aW,bH],by simp,by simp,by simp[bH]⟩
 |pk::ps,x,vs,a6,t,o,⟨v,J,b,a0,e1,e2,h1,h2⟩,y,ht,a2,a1,G,hG=>by
  subst e1;subst e2;simp only[CC]at ht;have u:∀ (o':cO (ah ps)),hY st (t+1) ps=some o'->d9 t (pk::ps) (v::J)=d9 (t+1) ps J->d8 t (pk::ps) (v::J)=d8 (t+1) ps J->(∀ k,bm V W o'.p o'.frz k->G k) ->
    ∃ r,bM w G ps o'.val J r/\(∀ k,r.flatten.count k=(aW W o'.kill).count k+((bH (t+1) ps).map W.β).count k)/\(∀ z∈o'.frz,aA st z)/\(∀ z∈o'.kill,aA st z)/\∀ b∈bH (t+1) ps,live st b:=by
   intro o' a8 e1 e2 a9;exact mw hV h a3 ps x.2 J a0 (t+1) o' h2 a8 (by omega) (λz H=>a2 z (by rw[e1];exact H)) (λz H=>a1 z (by rw[e2];exact H)) a9
  cases pk with
  |io b =>
   simp only[hY]at y;split at y
   ·rename_i y1 y2 Z a7;simp only[BA]at y;subst y;obtain⟨r,Y,I,M,O,X⟩:=mw hV h a3 ps x.2 J a0 (t+1) y2 h2 a7 (by omega) (λz H=>a2 z (BF _ H)) (λz H=>a1 z H) (λk hk=>hG k (dR.2 k hk));cases hb:decide ((au st (.tmp t)).1=bh b.isAgg) with
    |false=>rw[hb]at Z;cases Z
    |true =>
     rw[hb]at Z;simp only[cond_true]at Z;obtain⟨cs,h3,h4⟩:=cX h (.tmp t);rw[of_decide_eq_true hb]at h3;have hv:a.eval (.tmp t)=v:=a2 (t,v) (BG ..);rw[hv]at h3;obtain⟨g1,g2,g3⟩:=dP (pos:=0) h h4 Z;refine⟨aW W y1.kill::r,⟨?_,Y⟩,λk=>?_,λz H=>(BB.1 H).elim (g2 z) (M z),λz H=>(BB.1 H).elim (g3 z) (O z),X⟩
     ·unfold jo;rw[if_neg (by simp)];exact⟨cs,gy h3,g1.mono (λk hk=>hG k (dR.1 k hk))⟩
     ·rw[BQ,BU,I k,dL,BU];show _=_+((bH (t+1) ps).map W.β).count k;omega
   ·cases y
  |iop b =>
   simp only[hY]at y;split at y
   ·rename_i y1 y2 Z a7;simp only[BA]at y;subst y;obtain⟨r,Y,I,M,O,X⟩:=mw hV h a3 ps x.2 J a0 (t+1) y2 h2 a7 (by omega) (λz H=>a2 z (BF _ H)) (λz H=>a1 z (BF _ H)) (λk hk=>hG k (dR.2 k hk));obtain⟨g,c,E,b0,hv,_,_,_⟩:=h1;subst hv;obtain⟨a4,hβ⟩:=a1 (B0+t,tP (.pointer (some ⟨g,0,none⟩))) (BG ..);have hβ:W.β (B0+t)=g:=hβ;obtain⟨g1,g2,g3⟩:=dP (pos:=0) h (iv h (B0+t)) Z;rcases h.boxes (B0+t) a4.1 with ⟨h8,_⟩|⟨_,E',h8⟩
    ·have:=a4.2;rw[h8]at this;cases this
    ·refine⟨(g::aW W y1.kill)::r,⟨?_,Y⟩,λk=>?_,λz H=>(BB.1 H).elim (g2 z) (M z),λz H=>(BB.1 H).elim (g3 z) (O z),λb' a5=>?_⟩
     ·unfold jo;rw[if_pos rfl];exact⟨g,W.cs (B0+t),E',_,rfl,by rw[<- hβ];exact h8,g1.mono (λk hk=>hG k (dR.1 k hk)),rfl⟩
     ·rw[BQ,BU,I k,dL,BU,CP];show _=_+(W.β (B0+t)::(bH (t+1) ps).map W.β).count k;rw[CP,hβ];omega
     ·rcases BO.1 a5 with rfl|a5
      ·exact a4
      ·exact X b' a5
   ·cases y
  |rd b =>
   obtain⟨r,Y,I,M,O,X⟩:=u o y rfl rfl hG;exact⟨[]::r,⟨rfl,Y⟩,λk=>by rw[BQ,B5];exact I k,M,O,X⟩
  |own b =>
   obtain⟨r,Y,I,M,O,X⟩:=u o y rfl rfl hG;exact⟨[]::r,⟨rfl,Y⟩,λk=>by rw[BQ,B5];exact I k,M,O,X⟩
  |rref b =>
   obtain⟨r,Y,I,M,O,X⟩:=u o y rfl rfl hG;exact⟨[]::r,⟨rfl,Y⟩,λk=>by rw[BQ,B5];exact I k,M,O,X⟩
  |rref2 b =>
   obtain⟨r,Y,I,M,O,X⟩:=u o y rfl rfl hG;exact⟨[]::r,⟨rfl,Y⟩,λk=>by rw[BQ,B5];exact I k,M,O,X⟩
  |fn As B =>
   obtain⟨r,Y,I,M,O,X⟩:=u o y rfl rfl hG;exact⟨[]::r,⟨rfl,Y⟩,λk=>by rw[BQ,B5];exact I k,M,O,X⟩
  |clo f cs =>
   obtain⟨r,Y,I,M,O,X⟩:=u o y rfl rfl hG;exact⟨[]::r,⟨rfl,Y⟩,λk=>by rw[BQ,B5];exact I k,M,O,X⟩
  |hol b c off =>
   obtain⟨r,Y,I,M,O,X⟩:=u o y rfl rfl hG;exact⟨[]::r,⟨rfl,Y⟩,λk=>by rw[BQ,B5];exact I k,M,O,X⟩
end
section
variable {P:Program} {Γ:List Ctr} {T:TypeId->TI} {w:World} {ro:Nat->Prop}
theorem uw {fn:Func}{a:Act}{w:World}{r:List Value}(h:nz P a w fn.results.toList r):(results fn a.tmps).run P w=.ok (if h:r.toArray.size=1 then r.toArray[0] else .tuple r.toArray) w:=by
 have y:=rK _ _ h;have e:results fn a.tmps=(fn.results.mapM (ny a) >>= λu=>pure (if h:u.size=1 then u[0] else .tuple u)):=by
  unfold results;congr 1
 have z:(fn.results.mapM (ny a)).run P w=.ok r.toArray w:=by
  rw[Array.mapM_eq_mapM_toList];simp[y]
 rw[e];simp only[CK,z,CE,Ct]
theorem Bq (us:List Value):se us (if h:us.toArray.size=1 then us.toArray[0] else .tuple us.toArray):=by
 match us with
 |[]=>rfl
 |[u]=>rfl
 |u::r::us =>
  rw[dif_neg (by simp)];rfl
theorem rL:∀ (ps:List PK) (t:Nat),(bH t ps).Nodup/\∀ b∈bH t ps,B0+t<=b
 |[],t=>⟨CU,by simp[bH]⟩
 |I::ps,t=>by
  obtain⟨u,y⟩:=rL ps (t+1);have z:∀ b∈bH (t+1) ps,B0+t<=b:=λb r=>by have:=y b r;omega
  cases I with
  |iop a =>
   refine⟨B7.2 ⟨λH=>?_,u⟩,λb r=>?_⟩
   ·have:=y _ H;omega
   ·rcases BO.1 r with rfl|r
    ·exact Cg _
    ·exact z b r
  |_=>exact⟨u,z⟩
theorem Br {u:List RK}(h:ql u=true):u.countP RK.isBox<=1:=by
 unfold ql at h;split at h
 ·simp[RK.isBox]
 ·rw[Cl.2]
  ·exact Cz _
  ·intro r y;rw[BX]at h;have:=h r y;cases r <;> simp[RK.isV,RK.isBox]at this ⊢
theorem rM {β:Nat->Nat}:∀ {bs:List Nat},bs.Nodup->(∀ b∈bs,∀ u∈bs,β b=β u->b=u)->(bs.map β).Nodup
 |[],_,_=>CU
 |b::bs,z,H=>by
  rw[B7]at z;rw[BY,B7];refine⟨λI=>?_,rM z.2 (λx J y M=>H x (BF _ J) y (BF _ M))⟩;obtain⟨u,r,e⟩:=BL.1 I;have:=H u (BF _ r) b (BG ..) e;exact z.1 (by rw[<- this];exact r)
theorem xX (hT:TOk P T){c:Ctr}(c0:ql c.rs=true){vs:List Value}{I:List (List Nat)}{fn:Func}{nt:Nat}(hV:ay (fY w ro c.ps vs I nt)){x:ab c.ps}{pr:Nat->Prop}(b2:db P w ro pr c.ps x vs I)(c2:c.ps.length<=nt){ex:Ex}{s1:St}{y:ai c.rs×ah c.ps}
  (r:di T c.ps c.rs c.fresh fn.results.toList ex s1=some y) {a:Act} {w':World} (u:Rel P (fY w ro c.ps vs I nt) s1 a w') :
  (ex=.normal\/ex=.ret)/\∃ v,(results fn a.tmps).run P w'=.ok v w'/\tu c w ro vs I y (.returned v) w':=by
 obtain⟨W,u⟩:=u;have b5:ex=.normal\/ex=.ret:=by
  cases ex with
  |normal=>exact .inl rfl
  |ret=>exact .inr rfl
  |exit id=>cases r
 refine⟨b5,?_⟩;have r:finR T c.ps c.rs c.fresh fn.results.toList s1=some y:=by
  rcases b5 with rfl|rfl <;> exact r
 unfold finR at r;split at r
 ·rename_i O M bb c3;cases X:aY (O.kill++M.kill)&&dG (O.frz++M.frz) (O.kill++M.kill)&&(!c.fresh||!(O.p||M.p)) with
  |false=>rw[X]at r;cases r
  |true =>
   rw[X]at r;simp only[cond_true,BA]at r;subst r;simp only[BC]at X;obtain⟨⟨b4,ba⟩,b9⟩:=X;let N:Nat->Prop:=λk=>W.nw k\/∃ z∈O.frz++M.frz,k∈W.bs z.1 z.2
   have hG:∀ (p:Bool) (b1:List (Nat×Nat)),(p=true->(O.p||M.p)=true)->(∀ z∈b1,z∈O.frz++M.frz)->∀ k,bm (fY w ro c.ps vs I nt) W p b1 k->N k\/(c.fresh=false/\ro k):=by
    intro p b1 hp H k J;rcases J with (J|⟨hq,J⟩)|⟨z,Z,J⟩
    ·exact .inl (.inl J)
    ·refine .inr ⟨?_,J⟩;rw[hp hq]at b9;simpa using b9
    ·exact .inl (.inr ⟨z,H z Z,J⟩)
   obtain⟨us,a9,bx,r1,r2,r3,r4,r5,r6,r7⟩:=tR hV hT u rfl c.rs fn.results.toList O bb (G:=λk=>N k\/(c.fresh=false/\ro k)) (hG O.p O.frz (by intro h;simp[h]) (λz H=>BD _ H));obtain⟨b0,o1,o2,o3,o4,o5⟩:=mw hV u hV.nt c.ps x vs I 0 M b2 c3 (by rw[CG];exact c2) (λz H=>u.fixt z H) (λz H=>u.fixb z H) (G:=λk=>N k\/(c.fresh=false/\ro k)) (hG M.p M.frz (by intro h;simp[h]) (λz H=>BE _ H));have a2:∀ z∈O.kill++M.kill,aA s1 z:=λz H=>(BB.1 H).elim (r7 z) (o4 z)
   have a3:∀ z∈O.frz++M.frz,aA s1 z:=λz H=>(BB.1 H).elim (r6 z) (o3 z)
   have a4:∀ k,k<w'.heap.size->¬ (fY w ro c.ps vs I nt).prot k->pY w w' I.flatten k:=by
    intro k J hp;refine⟨J,?_⟩;by_cases bl:k<w.heap.size
    ·right;apply By;intro hn;exact hp ⟨bl,hn⟩
    ·exact .inl (by omega)
   have bn:∀ k,N k->pY w w' I.flatten k:=by
    rintro k (J|⟨z,H,J⟩)
    ·exact a4 k (u.nwlt k J).1 (u.nwlt k J).2
    ·obtain⟨l,h7,h8⟩:=a3 z H;exact a4 k (u.own_lt h7 h8 k J) (u.ownb z.1 z.2 l h7 h8 k J).2.1
   have Y:∀ b∈bx++bH 0 c.ps,live s1 b:=λb R=>(BB.1 R).elim (λR=>(r4 b R).1) (o5 b)
   have b6:(bx++bH 0 c.ps).Nodup:=by
    rw[CD];refine⟨?_,(rL c.ps 0).1,λb R b' b3 e=>?_⟩
    ·have:=Br c0;rw[<- r5]at this
     match bx,this with
     |[],_=>exact CU
     |[b],_=>simp
    ·subst e;have:=CW.1 (r4 b R).2 b b3;simp at this
   have ad:=rM (β:=W.β) b6 (λb R b' b3 e=>u.inj b b' (Y b R) (Y b' b3) e);have a5:∀ k,(b0.flatten++a9.flatten).count k=(aW W (O.kill++M.kill)).count k+((bx++bH 0 c.ps).map W.β).count k:=λk=>by
    rw[BU,o2 k,r3 k,dL,BU,CO,BU];omega
   have c1:=bu.1 (gO u b4 a2);have a8:∀ k∈b0.flatten++a9.flatten,(∃ z∈O.kill++M.kill,k∈W.bs z.1 z.2)\/∃ b,live s1 b/\W.β b=k:=λk J=>by
    have h5:=BW.2 J;rw[a5 k]at h5;by_cases h6:k∈aW W (O.kill++M.kill)
    ·exact .inl (gf.1 h6)
    ·have:=CV.2 h6;obtain⟨b,R,e⟩:=BL.1 (BW.1 (show 0<((bx++bH 0 c.ps).map W.β).count k by omega));exact .inr ⟨b,Y b R,e⟩
   refine⟨_,uw r1,_,us,N,b0,a9,rfl,Bq us,u.size,u.os,u.tape,u.output,λk h1 h2=>u.keep k ⟨h1,h2⟩,bn,o1,r2,bu.2 λk=>?_,λk J=>?_⟩
   ·rw[a5 k];have h5:=c1 k;have h6:=bu.1 ad k;by_cases h7:k∈(bx++bH 0 c.ps).map W.β
    ·have:(aW W (O.kill++M.kill)).count k=0:=CV.2 λhm=>by
      obtain⟨b,R,e⟩:=BL.1 h7;obtain⟨z,H,a0⟩:=gf.1 hm;obtain⟨l,hl,ho⟩:=a2 z H;exact (u.ownb z.1 z.2 l hl ho k a0).2.2 b (Y b R) e
     omega
    ·have:=CV.2 h7;omega
   ·rcases a8 k J with ⟨z,H,a0⟩|⟨b,R,e⟩
    ·obtain⟨l,hl,ho⟩:=a2 z H;have h9:=u.ownb z.1 z.2 l hl ho k a0;refine⟨a4 k (u.own_lt hl ho k a0) h9.2.1,?_⟩;rintro (hn|⟨z',Z,a1⟩)
     ·exact h9.1 hn
     ·obtain⟨l',a7,a6⟩:=a3 z' Z;obtain⟨e1,e2⟩:=u.sep z.1 z.2 l z'.1 z'.2 l' hl ho a7 a6 k a0 a1;exact nE ba z' Z (by rw[show z'=z from Prod.ext e1.symm e2.symm];exact H)
    ·subst e;have h9:=u.box b R;refine⟨a4 _ (u.box_lt R) h9.2,?_⟩;rintro (hn|⟨z',Z,a1⟩)
     ·exact h9.1 hn
     ·obtain⟨l',a7,a6⟩:=a3 z' Z;exact (u.ownb z'.1 z'.2 l' a7 a6 _ a1).2.2 b R rfl
 ·cases r
theorem jW:∀ {ps:List PK} {u:List Value} {t:Nat} {z:Nat×Value},z∈d9 t ps u->z.1∈ge t ps
 |[],_,_,_,h=>by simp[d9]at h
 |r::ps,[],_,_,h=>by cases r <;> simp[d9]at h
 |r::ps,v::u,t,z,h=>by
  cases r <;> simp only[d9,ge,BO]at h ⊢ <;> first
   |exact jW h
   |exact h.imp (λe=>by rw[e]) jW
theorem jX:∀ {ps:List PK} {u:List Value} {t:Nat} {z:Nat×Nat},z∈d8 t ps u->z.1∈bH t ps
 |[],_,_,_,h=>by simp[d8]at h
 |r::ps,[],_,_,h=>by cases r <;> simp[d8]at h
 |r::ps,v::u,t,z,h=>by
  cases r <;> simp only[d8,bH,BO]at h ⊢ <;> first
   |exact jX h
   |exact h.imp (λe=>by rw[e]) jX
theorem dr {f:FuncId}{fn:Func}{c:Code}(z:P.funcs[f]?=some fn)(y:(fn.name== "runtime.NumGoroutine")=false) (H:fn.body=some c):fP P f:=by
 intro u w;have r:fn.name≠ "runtime.NumGoroutine" := by simpa using y
 simp[callFunc,z,r,H]
theorem pc (hT:TOk P T)(hΓ:∀ c∈Γ,bQ P c)(O:P.follows .mixedOrders=true){c:Ctr}{fn:Func}(hf:P.funcs[c.f]?=some fn)(hn:(fn.name== "runtime.NumGoroutine")=false)
  {L:List (Nat×List (Nat×List Coe))} {Z:Nat} (R:fn.body.isSome=true) (M:∀ x,evF Γ T L Z fn c.ps c.rs c.fresh x=c.den x):bQ P c:=by
 obtain⟨H,R⟩:=Option.isSome_iff_exists.1 R;refine⟨dr hf hn R,λw ro x vs a5 y u a4 a3 J=>?_⟩;rw[<- M]at J;unfold evF at J;simp only[R]at J;cases r:dQ fn.ntmps (ge 0 c.ps) H&&Ci c.ps.length fn.ntmps&&Ci fn.ntmps GH&&ql c.rs&&dt L (bH 0 c.ps) H with
 |false=>simp[r]at J
 |true =>
  simp only[r,cond_true]at J;simp only[BC]at r;obtain⟨⟨⟨⟨h1,h2⟩,h3⟩,h4⟩,h5⟩:=r;have h2:=Bz h2;have h3:=Bz h3;have hV:ay (fY w ro c.ps vs a5 fn.ntmps):=⟨λk hk=>a4 k hk,h3⟩;have X:=vg (P:=P) (ro:=ro) u a3 h2 h3;refine calls_of_wp hf R ?_;rw[Cu];refine sg hV hT hΓ O (λz hz=>jX hz) (nt:=fn.ntmps) (fix:=ge 0 c.ps) rfl (λz hz=>jW hz) H h1 h5 _ _ y _ J (λex s1 a0 a' w' hr=>?_) _ _ X;obtain⟨a2,v,Y,I⟩:=xX hT h4 hV u h2 a0 hr;have a1:a'.defers=[]:=by obtain⟨W,hr⟩:=hr;exact hr.df
  rcases a2 with rfl|rfl <;> exact⟨a1,v,Y,I⟩
end
section
variable {P:Program}
def szB (P:Program)(t:TypeId)(n:Nat):Bool :=
 match P.info? t with
 |some i=>BJ i.size n
 |none=>false
theorem fK {t:TypeId}{n:Nat}(h:szB P t n=true):bR P t n:=by
 unfold szB at h;unfold bR;split at h
 ·rename_i i r;rw[r];simp only[Bw];rw[BH h]
 ·cases h
def tS (P:Program)(t:TypeId)(agg:Bool):Bool :=
 match P.underlying t with
 |some (.struct _)|some (.array _ _)=>agg
 |some _=>!agg
 |none=>false
theorem qN {t:TypeId}{agg:Bool}(h:tS P t agg=true):(P.underlying t).map (λd=>match d with|.struct _|.array _ _=>true|_=>false)=some agg:=by
 unfold tS at h;split at h
 ·rename_i r;rw[r];simp[h]
 ·rename_i r;rw[r];simp[h]
 ·rename_i d u y r;rw[r];simp only[Bw,BA];cases agg with
  |true=>cases h
  |false =>
   cases d <;> first|rfl|(exact absurd r (u _))|(exact absurd r (y _ _))
 ·cases h
theorem Av {t:TypeId}{agg:Bool}(h:(P.underlying t).map (λd=>match d with|.struct _|.array _ _=>true|_=>false)=some agg)(w:World):(isAgg t).run P w=.ok agg w:=by
 unfold isAgg;cases r:P.underlying t with
 |none=>simp[r]at h
 |some u =>
  rw[r]at h;simp only[Bw,BA]at h;subst h;rw[CK,run_underlying r w];cases u <;> rfl
def lE (P:Program)(f:Field)(off:Nat)(b:Ty):Bool:=(f.name != "_")&&BJ f.offset off&&szB P f.type b.cells&&tS P f.type b.isAgg
def eqF (P:Program)(g:Ty->TypeId->Bool):List Field->Nat->Ty->Bool
 |[],_,_=>false
 |[f],off,b=>lE P f off b&&g b f.type
 |f::r,off,.pair b c=>lE P f off b&&g b f.type&&eqF P g r (off+b.cells) c
 |_,_,_=>false
def eqT (P:Program):Nat->Ty->TypeId->Bool
 |0,_,_=>false
 |n+1,a,t=>match a with
  |.int k=>(match P.underlying t with|some (.int k')=>decide (k'=k)|_=>false)
  |.bool=>(match P.underlying t with|some .bool=>true|_=>false)
  |.str=>(match P.underlying t with|some .string=>true|_=>false)
  |.pair b c=>(match P.underlying t with|some (.struct fs)=>!P.stoodInHeld t&&eqF P (eqT P n) fs.toList 0 (.pair b c)|_=>false)
  |_=>false
theorem zb:∀ (b:Ty),b.isAgg=false->b.cells=1
 |.int _,_=>rfl
 |.bool,_=>rfl
 |.str,_=>rfl
 |.list _ _ _,_=>rfl
 |.hdr,_=>rfl
 |.unit,h=>by cases h
 |.pair _ _,h=>by cases h
theorem my {f:Field}{off:Nat}{b:Ty}(h:lE P f off b=true){xs p c s:List Value}(J:xs=p++c++s)(M:p.length=off)(z:c.length=b.cells)(w:World) :
  ∃ v,(part f.type xs.toArray f.offset).run P w=.ok v w/\dg b.isAgg v c:=by
 unfold lE at h;simp only[BC]at h;obtain⟨⟨⟨_,y⟩,O⟩,X⟩:=h;have y:=BH y;have r:=Av (qN X) w;have H:=dx (fK O) w;have u:(xs.drop off).take b.cells=c:=by
  rw[J,B3,<- M,List.drop_left,<- z,List.take_left]
 cases I:b.isAgg with
 |true =>
  rw[I]at r;refine⟨.agg c.toArray,?_,rfl⟩;have e:xs.toArray.extract off (off+b.cells)=c.toArray:=by
   rw[List.extract_toArray,List.extract_eq_take_drop,Nat.add_sub_cancel_left,u]
  simp only[part,CK,r,CE,if_true,H,Ct,y,e]
 |false =>
  rw[I]at r;have R:=zb b I;rw[R]at z
  match c,z with
  |[v],_ =>
   refine⟨v,?_,rfl⟩;have e:xs.toArray[off]?=some v:=by
    simp only[List.getElem?_toArray];rw[J,B3,BZ (by omega)];simp[M]
   simp only[part,CK,r,CE,CQ,if_false,y,e,Ct]
def zu (P:Program)(d:Nat)(b:Ty)(t:TypeId):Prop:=∀ (w:World) (G:Nat->Prop) (x y:b.den) (r H:Value) (z u:List Value),dg b.isAgg r z->Rd w G b x z->dg b.isAgg H u->Rd w G b y u ->
 (Op.equalIn d t r H).run P w=.ok (b.eqv x y) w
theorem xY {d:Nat}{g:Ty->TypeId->Bool}(hg:∀ b t,g b t=true->zu P d b t):∀ (fs:List Field) (off:Nat) (b:Ty),eqF P g fs off b=true->∀ (w:World) (G:Nat->Prop) (x y:b.den) (H M r J:List Value),
  H.length=off->r.length=off->Rd w G b x M->Rd w G b y J->(Op.eqFields d (H++M).toArray (r++J).toArray fs).run P w=.ok (b.eqv x y) w
 |[],_,_,h=>by simp[eqF]at h
 |[f],off,b,h=>by
  intro w G x y H M r J u z hx hy;simp only[eqF,BC]at h;obtain⟨v1,h1,h2⟩:=my h.1 (xs:=H++M) (p:=H) (c:=M) (s:=[]) (by simp) u hx.len w;obtain⟨v2,h3,h4⟩:=my h.1 (xs:=r++J) (p:=r) (c:=J) (s:=[]) (by simp) z hy.len w;have h5:=hg b f.type h.2 w G x y v1 v2 M J h2 hx h4 hy;have hn:f.name≠ "_" := by
   have:=h.1;unfold lE at this;simp only[BC]at this;simpa using this.1.1.1
  simp only[Op.eqFields,if_pos hn,CK,h1,h3,h5,CE];cases b.eqv x y <;> simp
 |f::X::fs,off,.pair b c,h=>by
  intro w G x y H M r J u z hx hy;simp only[eqF,BC]at h;obtain⟨⟨Y,a1⟩,R⟩:=h;obtain⟨c1,c2,rfl,O,a0⟩:=hx;obtain⟨Z,d2,rfl,I,a2⟩:=hy;obtain⟨v1,h1,h2⟩:=my Y (xs:=H++(c1++c2)) (p:=H) (c:=c1) (s:=c2) (by simp) u O.len w;obtain⟨v2,h3,h4⟩:=my Y (xs:=r++(Z++d2)) (p:=r) (c:=Z) (s:=d2) (by simp) z I.len w;have h5:=hg b f.type a1 w G x.1 y.1 v1 v2 c1 Z h2 O h4 I;have h6:=xY hg (X::fs) (off+b.cells) c R w G x.2 y.2 (H++c1) c2 (r++Z) d2 (by simp[u,O.len]) (by simp[z,I.len]) a0 a2;rw[B3,B3]at h6;have hn:f.name≠ "_" := by
   unfold lE at Y;simp only[BC]at Y;simpa using Y.1.1.1
  rw[Op.eqFields];simp only[if_pos hn,CK,h1,h3,h5,CE];show _=Result.ok (b.eqv x.1 y.1&&c.eqv x.2 y.2) w;cases b.eqv x.1 y.1 with
  |false=>simp
  |true=>simpa using h6
 |f::X::fs,off,.int _,h=>by simp[eqF]at h
 |f::X::fs,off,.bool,h=>by simp[eqF]at h
 |f::X::fs,off,.str,h=>by simp[eqF]at h
 |f::X::fs,off,.unit,h=>by simp[eqF]at h
 |f::X::fs,off,.list _ _ _,h=>by simp[eqF]at h
 |f::X::fs,off,.hdr,h=>by simp[eqF]at h
theorem rN (x y:ByteArray):(x==y)=decide (x=y):=by
 rw[beq_toListBytes];by_cases h:x=y
 ·subst h;simp
 ·rw[decide_eq_false h];cases r:(x.toList==y.toList) with
  |false=>rfl
  |true =>
   exfalso;apply h;have:=eq_of_beq r;rw[Cm,Cm]at this;apply ByteArray.ext;exact Array.ext' this
theorem xZ:∀ (n:Nat) (a:Ty) (t:TypeId),eqT P n a t=true->∀ d,n<=d->zu P d a t
 |0,_,_,h=>by simp[eqT]at h
 |n+1,a,t,h=>by
  intro d hd;obtain⟨d,rfl⟩:∃ d',d=d'+1:=⟨d-1,by omega⟩;intro w G x y O R J I r z u H;cases a with
  |int k =>
   simp only[eqT]at h;split at h
   ·rename_i Y M;have hk:=of_decide_eq_true h;subst hk;have z:J=[.int Y x]:=z;have H:I=[.int Y y]:=H;have r:J=[O]:=r;have u:I=[R]:=u;rw[z]at r;rw[H]at u;simp at r u;subst r;subst u;simp[Op.equalIn,run_underlying M,Ty.eqv];rfl
   ·cases h
  |bool =>
   simp only[eqT]at h;split at h
   ·rename_i M;have z:J=[.bool x]:=z;have H:I=[.bool y]:=H;have r:J=[O]:=r;have u:I=[R]:=u;rw[z]at r;rw[H]at u;simp at r u;subst r;subst u;simp[Op.equalIn,run_underlying M,Ty.eqv]
   ·cases h
  |str =>
   simp only[eqT]at h;split at h
   ·rename_i M;have z:J=[.string x]:=z;have H:I=[.string y]:=H;have r:J=[O]:=r;have u:I=[R]:=u;rw[z]at r;rw[H]at u;simp at r u;subst r;subst u;have:=rN x y;simp[Op.equalIn,run_underlying M,Ty.eqv,this]
   ·cases h
  |pair b c =>
   simp only[eqT]at h;split at h
   ·rename_i X M;simp only[BC,CA]at h;have Z:P.fieldsOf t=X:=by simp[Program.fieldsOf,M]
    have r:O=.agg J.toArray:=r;have u:R=.agg I.toArray:=u;subst r;subst u;rw[run_equalIn_struct (P:=P) w d t _ _ (by rw[Z];exact M) h.1,Z];have:=xY (P:=P) (λb t hb=>xZ n b t hb d (by omega)) X.toList 0 (.pair b c) h.2 w G x y [] J [] I rfl rfl z H;simpa using this
   ·cases h
  |unit=>simp[eqT]at h
  |hdr=>simp[eqT]at h
  |list m E e=>simp[eqT]at h
theorem Aw {t:TypeId}{a:Ty}(h:eqT P 64 a t=true)(z:a.isAgg=true):EqAt P t a:=by
 intro _ w G x y u r H I;have:=xZ 64 a t h Op.maxDepth (by decide) w G x y (.agg u.toArray) (.agg r.toArray) u r (by rw[z];rfl) H (by rw[z];rfl) I;exact this
def wA:Value->Value->Bool
 |.int k n,.int y u=>decide (k=y)&&decide (n=u)
 |.bool b,.bool z=>b==z
 |.string s,.string r=>decide (s.toList=r.toList)
 |.slice none 0 0,.slice none 0 0=>true
 |.pointer none,.pointer none=>true
 |.nilFunc,.nilFunc=>true
 |_,_=>false
def kM:List Value->List Value->Bool
 |[],[]=>true
 |v::y,u::r=>wA v u&&kM y r
 |_,_=>false
theorem zc {v u:Value}(h:wA v u=true):v=u:=by
 unfold wA at h;split at h
 ·simp only[BC,decide_eq_true_eq]at h;rw[h.1,h.2]
 ·rw[eq_of_beq h]
 ·rename_i s y;have:s=y:=by
   have r:=rN s y;rw[beq_toListBytes,of_decide_eq_true h]at r;simpa using r.symm
  rw[this]
 ·rfl
 ·rfl
 ·rfl
 ·cases h
theorem mz:∀ {r us:List Value},kM r us=true->r=us
 |[],[],_=>rfl
 |v::r,u::us,h=>by
  simp only[kM,BC]at h;rw[zc h.1,mz h.2]
 |[],_::_,h=>by simp[kM]at h
 |_::_,[],h=>by simp[kM]at h
def zB (P:Program)(t:TypeId)(agg:Bool)(cs:List Value):Bool :=
 match P.info? t with
 |some i=>match i.zero with
  |some (.agg r)=>agg&&kM r.toList cs
  |some v=>!agg&&kM [v] cs
  |none=>false
 |none=>false
theorem x3 {t:TypeId}{cs:List Value}(h:zB P t true cs=true):d5 P t (.agg cs.toArray):=by
 unfold zB at h;unfold d5;split at h
 ·rename_i i u;rw[u];split at h
  ·rename_i y r;simp only[Co]at h;rw[Bw,r,<- mz h,Array.toArray_toList]
  ·cases h
  ·cases h
 ·cases h
theorem lF {t:TypeId}{v:Value}(h:zB P t false [v]=true):d5 P t v:=by
 unfold zB at h;unfold d5;split at h
 ·rename_i i y;rw[y];split at h
  ·cases h
  ·rename_i u _ r;simp only[C6,Co]at h;have:=mz h;simp only[Cc,and_true]at this;rw[Bw,r,this]
  ·cases h
 ·cases h
def ka (P:Program)(n:Nat):List Field->List (Nat×Nat×Bool)->Bool
 |[],[]=>true
 |f::r,(off,k,agg)::u=>BJ f.offset off&&szB P f.type k&&tS P f.type agg&&Cb 0 k&&Ci (off+k) n&&(agg||BJ k 1)&&ka P n r u
 |_,_=>false
def isU8:Ty->Bool
 |.int .u8=>true
 |_=>false
def u8B (P:Program)(E:TypeId):Bool :=
 match P.underlying E with
 |some (.int .u8)=>true
 |_=>false
def tiB (P:Program)(t:TypeId):TI->Bool
 |.int k=>(match P.underlying t with|some (.int k')=>decide (k'=k)|_=>false)&&szB P t 1&&zB P t false [.int k 0]
 |.bool=>(match P.underlying t with|some .bool=>true|_=>false)&&szB P t 1&&zB P t false [.bool false]
 |.str=>(match P.underlying t with|some .string=>true|_=>false)&&szB P t 1&&zB P t false [.string ByteArray.empty]
 |.slice E e r=>(match P.underlying t with|some (.slice E')=>BJ E' E|_=>false)&&szB P t 1&&zB P t false [.slice none 0 0]&&Cb 0 e.cells&&Cb 0 r &&
  szB P E e.cells&&(match P.info? E with | some i=>BJ i.bytes r&&(match i.zero with | some z=>kM z.cells.toList (zeroCells e) | none=>false) | none=>false)&&(!isU8 e||u8B P E)
 |.arr e n=>(match P.underlying t with|some (.array m E)=>BJ m n&&szB P E e.cells&&tS P E e.isAgg|_=>false)&&Cb 0 e.cells&&szB P t (n*e.cells)&&zB P t true (List.replicate n (zeroCells e)).flatten
 |.struct a u=>(match P.underlying t with | some (.struct y)=>ka P a.cells y.toList u | _=>false)&&szB P t a.cells&&zB P t true (zeroCells a)&&a.isAgg&&(!a.flat||eqT P 64 a t)&&!P.eqGuardType P.depth t
 |.ptr=>(match P.underlying t with|some (.pointer _)=>true|_=>false)&&szB P t 1&&zB P t false [.pointer none]
 |.fn=>(match P.underlying t with|some (.func _ _ _)=>true|_=>false)&&szB P t 1&&zB P t false [.nilFunc]
 |.none=>true
theorem qg {n:Nat}:∀ {fs:List Field} {xs:List (Nat×Nat×Bool)},ka P n fs xs=true ->
  fs.mapM (λf=>(P.info? f.type).map λi=>(f.offset,i.size))=some (xs.map λx=>(x.1,x.2.1)) /\
  ∀ (i off k:Nat) (agg:Bool),xs[i]?=some (off,k,agg)->(agg=false->k=1)/\∃ f:Field,fs[i]?=some f/\f.offset=off/\0<k/\off+k<=n/\bR P f.type k /\
   (P.underlying f.type).map (λd=>match d with|.struct _|.array _ _=>true|_=>false)=some agg
 |[],[],_=>⟨rfl,λi off k agg h=>by simp at h⟩
 |[],_::_,h=>by simp[ka]at h
 |_::_,[],h=>by simp[ka]at h
 |f::fs,(off,k,agg)::xs,h=>by
  simp only[ka,BC,CN]at h;obtain⟨⟨⟨⟨⟨⟨H,O⟩,X⟩,h4⟩,M⟩,u⟩,h7⟩:=h;have H:=BH H;have r:=fK O;obtain⟨h8,R⟩:=qg h7;constructor
  ·unfold bR at r;cases I:P.info? f.type with
   |none=>rw[I]at r;cases r
   |some i =>
    rw[I]at r;simp only[Bw,BA]at r;simp[Ch,I,h8,r,H]
  ·intro i z Y y J;cases i with
   |zero =>
    simp at J;obtain⟨rfl,rfl,rfl⟩:=J;refine⟨λZ=>?_,f,rfl,H,by simpa[CI]using h4,Bz M,r,qN X⟩;rcases u with u|u
    ·rw[Z]at u;cases u
    ·exact BH u
   |succ i =>
    obtain⟨q1,f',q2,q3⟩:=R i z Y y (by simpa using J);exact⟨q1,f',by simpa using q2,q3⟩
theorem Bs {t:TypeId}{i:TI}(h:tiB P t i=true):oF P t i:=by
 cases i with
 |none=>trivial
 |int k =>
  simp only[tiB,BC]at h;obtain⟨⟨r,H⟩,I⟩:=h;split at r
  ·rename_i k' u;rw[of_decide_eq_true r]at u;exact⟨u,fK H,lF I⟩
  ·cases r
 |bool =>
  simp only[tiB,BC]at h;obtain⟨⟨r,H⟩,I⟩:=h;split at r
  ·rename_i u;exact⟨u,fK H,lF I⟩
  ·cases r
 |str =>
  simp only[tiB,BC]at h;obtain⟨⟨r,H⟩,I⟩:=h;split at r
  ·rename_i u;exact⟨u,fK H,lF I⟩
  ·cases r
 |ptr =>
  simp only[tiB,BC]at h;obtain⟨⟨r,H⟩,I⟩:=h;split at r
  ·rename_i e u;exact⟨⟨e,u⟩,fK H,lF I⟩
  ·cases r
 |fn =>
  simp only[tiB,BC]at h;obtain⟨⟨r,H⟩,I⟩:=h;split at r
  ·rename_i x y z u;exact⟨⟨x,y,z,u⟩,fK H,lF I⟩
  ·cases r
 |slice E e a1 =>
  simp only[tiB,BC]at h;obtain⟨⟨⟨⟨⟨⟨⟨r,H⟩,I⟩,Z⟩,M⟩,X⟩,R⟩,J⟩:=h;have a0:e=.int .u8->P.underlying E=some (.int .u8):=by
   intro he;subst he;have J:u8B P E=true:=by simpa[isU8]using J
   unfold u8B at J;split at J
   ·rename_i hq;exact hq
   ·cases J
  split at r
  ·rename_i E' u;rw[BH r]at u;split at R
   ·rename_i ti Y;simp only[BC]at R;obtain⟨h8,h9⟩:=R;split at h9
    ·rename_i z hz;have O:=fK X;unfold bR at O;rw[Y]at O;simp only[Bw,BA]at O;exact⟨u,fK H,lF I,by simpa[CI]using Z,⟨by simpa[CI]using M,a0⟩,ti,z,Y,O,BH h8,hz,mz h9⟩
    ·cases h9
   ·cases R
  ·cases r
 |arr e n =>
  simp only[tiB,BC]at h;obtain⟨⟨⟨r,H⟩,I⟩,Z⟩:=h;split at r
  ·rename_i m E u;simp only[BC]at r;obtain⟨⟨M,X⟩,R⟩:=r;rw[BH M]at u;exact⟨⟨E,u,fK X,qN R⟩,by simpa[CI]using H,fK I,x3 Z⟩
  ·cases r
 |struct a a2 =>
  simp only[tiB,BC,CN,CA]at h;obtain⟨⟨⟨⟨⟨r,H⟩,I⟩,Z⟩,M⟩,X⟩:=h;split at r
  ·rename_i fs u;obtain⟨R,h8⟩:=qg r;refine⟨⟨fs,u,R,λi off n agg hx=>?_⟩,fK H,x3 I,?_,X⟩
   ·obtain⟨q1,f,q2,q3⟩:=h8 i off n agg hx;exact⟨q1,f,by simpa using q2,q3⟩
   ·intro hf;rcases M with M|M
    ·rw[hf]at M;cases M
    ·exact Aw M Z hf
  ·cases r
def tlB (P:Program):List (TypeId×TI)->Bool
 |[]=>true
 |x::l=>tiB P x.1 x.2&&tlB P l
theorem iZ:∀ {l:List (TypeId×TI)},tlB P l=true->TOk P (gD l):=by
 intro l h;refine su ?_;induction l with
 |nil=>simp
 |cons x l u =>
  simp only[tlB,BC]at h;intro y r;rcases BO.1 r with rfl|r
  ·exact Bs h.1
  ·exact u h.2 y r
end
section
variable {P:Program} {T:TypeId->TI}
theorem nA (hT:TOk P T)(M:P.follows .mixedOrders=true){f:FuncId}{fn:Func}(hf:P.funcs[f]?=some fn)(hn:(fn.name== "runtime.NumGoroutine")=false) {E:TypeId} {e:Ty} {rs:List RK} {r:Bool}
  {O:ab [PK.rd (.list false E e)]->Option (ai rs×ah [PK.rd (.list false E e)])} {R0 A B C:Code} {rid:Nat} {o0 o1:Oper} {d0 q t t':Nat} {x0:Operand} {L:List (Nat×List (Nat×List Coe))} {K:Nat}
  (hb:fn.body=some (.seq R0 (.seq (.seq (.region rid #[o0,o1] false) (.cond (.tmp q) A B)) C))) (b3:o0.guard=none) (d1:o0.op=.move x0) (ba:o1.op=.binOp .eql t (.tmp d0) (.const (.slice none 0 0)) t') (cc:o1.guard=none) (a8:o1.dst=some q)
  {E':TypeId} (ht:P.underlying t=some (.slice E'))
  (a3:(dQ fn.ntmps [] (.seq R0 (.seq (.seq (.region rid #[o0,o1] false) (.cond (.tmp q) A B)) C))&&Ci 1 fn.ntmps&&Ci fn.ntmps GH&&ql rs&&dt L [] (.seq R0 (.seq (.seq (.region rid #[o0,o1] false) (.cond (.tmp q) A B)) C)))=true)
  {S1:ab [PK.rd (.list false E e)]->St}
  (b5:∀ x,evK [] T L K R0 (av (dm 0 [PK.rd (.list false E e)] x)) (qj (λs _=>act [] T o0 s (λU=>some (ac U s))) (λ_ _=>none))=some (S1 x))
  (X:∀ x,one (S1 x) (.tmp d0)=.ro true E e x.1)
  (hF:∀ x,evK [] T L K (.seq (.cond (.tmp q) A B) C) (ac (cm (S1 x) [] q .one [.bool false]) (S1 x)) (di T [PK.rd (.list false E e)] rs r fn.results.toList)=O x)
  (bn:∀ x y,x.1=[]->O x=some y->evK [] T L K (.seq (.cond (.tmp q) A B) C) (ac (cm (S1 x) [] q .one [.bool true]) (S1 x)) (di T [PK.rd (.list false E e)] rs r fn.results.toList)=some y) :
  bQ P ⟨f,[PK.rd (.list false E e)],rs,r,O⟩:=by
 refine⟨dr hf hn hb,λw ro x vs u y Z cb cu hy=>?_⟩;simp only[BC]at a3;obtain⟨⟨⟨⟨h1,h2⟩,h3⟩,h4⟩,h5⟩:=a3;have h2:=Bz h2;have h3:=Bz h3;have hV:ay (fY w ro [PK.rd (.list false E e)] vs u fn.ntmps):=⟨λk hk=>cb k hk,h3⟩;have b9:=vg (P:=P) (ro:=ro) Z cu h2 h3;have hnoΓ:∀ c∈([]:List Ctr),bQ P c:=by simp
 have a9:∀ z∈(fY w ro [PK.rd (.list false E e)] vs u fn.ntmps).fixb,z.1∈([]:List Nat):=λz hz=>jX (ps:=[PK.rd (.list false E e)]) hz
 have R:∀ z∈(fY w ro [PK.rd (.list false E e)] vs u fn.ntmps).fixt,z.1∈([]:List Nat):=λz hz=>jW (ps:=[PK.rd (.list false E e)]) hz
 simp only[dQ,BC]at h1;simp only[dt,BC]at h5;obtain⟨c1,⟨b2,cw⟩,cy⟩:=h1;obtain⟨c2,⟨_,c4⟩,cx⟩:=h5;refine calls_of_wp hf hb ?_;rw[Cu];generalize cp:bodyPost P fn (tu ⟨f,[PK.rd (.list false E e)],rs,r,O⟩ w ro vs u y)=Q;have hQ:∀ ex s1,di T [PK.rd (.list false E e)] rs r fn.results.toList ex s1=some y->∀ a I,Rel P (fY w ro [PK.rd (.list false E e)] vs u fn.ntmps) s1 a I->Q (exOf ex) a I:=by
  intro ex s1 bb a' I J;obtain⟨bx,v,a0,b0⟩:=xX (c:=⟨f,[PK.rd (.list false E e)],rs,r,O⟩) hT h4 hV Z h2 bb J;have c3:a'.defers=[]:=by obtain⟨W,J⟩:=J;exact J.df
  subst cp;rcases bx with rfl|rfl <;> exact⟨c3,v,a0,b0⟩
 have a7:∀ (b:Bool),evK [] T L K (.seq (.cond (.tmp q) A B) C) (ac (cm (S1 x) [] q .one [.bool b]) (S1 x)) (di T [PK.rd (.list false E e)] rs r fn.results.toList)=some y ->
   ∀ a I,Rel P (fY w ro [PK.rd (.list false E e)] vs u fn.ntmps) (ac (cm (S1 x) [] q .one [.bool b]) (S1 x)) a I->(Code.cond (.tmp q) A B).wp P (Exit.then (C.wp P Q) Q) a I:=by
  intro b a6 a I J;refine sg hV hT hnoΓ M a9 (nt:=fn.ntmps) (fix:=[]) rfl R (.cond (.tmp q) A B) (by simp only[dQ,BC];exact cw) (by simp only[dt,BC];exact c4) _ _ y _ a6 (λex s1 H a I J=>?_) a I J;cases ex with
  |normal=>exact sg hV hT hnoΓ M a9 (nt:=fn.ntmps) (fix:=[]) rfl R C cy cx s1 _ y Q H hQ a I J
  |exit b1=>exact hQ (.exit b1) s1 H a I J
  |ret=>exact hQ .ret s1 H a I J
 have a5:∀ (i:Nat) (o:Oper),(#[o0,o1]:Array Oper)[i]?=some o->lp fn.ntmps [] #[o0,o1] o=true:=λi o hi=>by
  simp only[BX]at b2;exact b2 o (by simpa using Ce hi)
 refine wp_seq (sg hV hT hnoΓ M a9 (nt:=fn.ntmps) (fix:=[]) rfl R R0 c1 c2 _ _ (S1 x) _ (b5 x) (λex s0 H a I J=>?_) _ _ b9);cases ex with
 |exit b1=>cases H
 |ret=>cases H
 |normal =>
  have H:act [] T o0 s0 (λU=>some (ac U s0))=some (S1 x):=H;rw[tC]at H;obtain⟨U,hU,H⟩:=B4.1 H;simp only[BA]at H;refine wp_seq (wp_seq (wp_region ?_));have a2:C5 (#[o0,o1]:Array Oper).size=[0,1]:=rfl;rw[a2,wpOps_cons];refine wv hV hT hnoΓ (ops:=#[o0,o1]) (i:=0) (o:=o0) rfl (mu rfl R (a5 0 o0 rfl)) (λj d2 hg=>by rw[b3]at hg;cases hg) (U:=U) (by unfold mq;rw[b3];exact hU) J (λa1 w1 Y=>?_);rw[H]at Y;rw[wpOps_cons];obtain⟨W1,Y⟩:=Y;have a4:bO (fY w ro [PK.rd (.list false E e)] vs u fn.ntmps) o1:=mu rfl R (a5 1 o1 rfl);obtain⟨h7,_,_,_,_⟩:=bt Y (.tmp d0) (by rw[X x];simp);rw[X x]at h7;obtain⟨A',b4,hv,_,c0⟩:=h7;have hv:a1.eval (.tmp d0)=.slice A' x.1.length b4:=by simpa using hv
  have b6:A'=none->x.1=[]:=λhA=>by
   cases hx:x.1 with
   |nil=>rfl
   |cons y ys =>
    obtain⟨g,o,bl,_⟩:=c0 (by rw[hx];simp);rw[hA]at bl;cases bl
  have a6:evK [] T L K (.seq (.cond (.tmp q) A B) C) (ac (cm (S1 x) [] q .one [.bool A'.isNone]) (S1 x)) (di T [PK.rd (.list false E e)] rs r fn.results.toList)=some y:=by
   cases hA:A' with
   |none=>exact bn x y (b6 hA) hy
   |some ad=>exact (hF x).trans hy
  have a0:(execOp a1.eval o1).run P w1=.ok (.value (.bool A'.isNone)) w1:=by
   have:=Lib.run_eql_slice_nil (P:=P) w1 t E' A' x.1.length b4 0 0 ht;have hc:a1.eval (.const (.slice none 0 0))=.slice none 0 0:=rfl;simp[execOp,ba,hv,hc,eqGuard,this]
  unfold wpOp;have hi:(#[o0,o1]:Array Oper)[1]?=some o1:=rfl;simp only[hi];have hw:Region.wanted o1 (yielded #[o0,o1] a1.tmps)=true:=by simp[Region.wanted,cc]
  rw[if_pos hw];refine .inl (dX a0 ?_);rw[a8];show Exit.then _ _ _ _ _;exact a7 _ a6 _ _ (Y.putLs hV q (a4 q a8).1 (a4 q a8).2 _ .one [.bool A'.isNone] (.bool A'.isNone) [.bool A'.isNone] (CF _) rfl ⟨⟨rfl,id,rfl⟩,trivial⟩)
end
open Go.ChangeShapes Go.WideShapes
section
variable {H:Type} {enc:TypeId×Value->H} {P:Program}
theorem mC (M:laidOutB P=true){W W':World}{J:Nat->Bool}:∀ {y:List TypeId} {z:List Value} {ds:List (DataW H)} {ps:List MemPlace},(∀ t∈y,P.readableRec t=true/\t<P.types.size) ->
  DataW.TrodAll enc P W 0 (λ_=>true) true y z ds ps->(∀ x∈ps,W.sameAt W' x)->(∀ x∈ps,J x.block=true)->DataW.TrodAll enc P W' 0 J true y z ds ps
 |[],[],[],_,_,h,_,_=>h
 |[],[],_::_,_,_,h,_,_=>h.elim
 |[],_::_,_,_,_,h,_,_=>h.elim
 |_::_,[],_,_,_,h,_,_=>h.elim
 |_::_,_::_,[],_,_,h,_,_=>h.elim
 |t::y,v::z,d::ds,ps,I,⟨p,q,Z,X,e⟩,O,u=>by
  subst e;refine⟨p,q,WideElems.Trod_stays M (I t (BG ..)).1 (I t (BG ..)).2 Z (λx r=>O x (BD _ r)) (λx r=>u x (BD _ r)),
   mC M (λR Y=>I R (BF _ Y)) X (λx r=>O x (BE _ r)) (λx r=>u x (BE _ r)),rfl⟩
theorem rW (hl:laidOutB P=true){f:Func}{s:ChangeSpec}{z X u a1:Bool}{W W':World}{I:Array Value}{ds gs:List (DataW H)}{r:List MemPlace}
  (hW:DataW.Whole enc P f.params.toList s.vars z W I.toList ds gs r) (J:s.vars=[]) (hb:Below W.heap.size W W') (a0:∀ t∈f.params.toList,P.readableRec t=true/\t<P.types.size)
  {tb:TypeId} (O:f.resultTypes=#[tb]) (y:P.underlying tb=some .bool) (a2:(s.fn H (ds++gs)).results=[.lit (.bool true)]) (R:(s.fn H (ds++gs)).args=ds) (a5:(s.fn H (ds++gs)).vars=[]) :
  s.post enc P f z X u a1 W I (.bool true) W':=by
 have Y:∀ p∈r,p.block<W.heap.size:=λp hp=>by simpa using hW.lt p hp
 have a4:=hW;obtain⟨p,q,hA,hV,e,hz,hn⟩:=hW;rw[J]at hV;obtain⟨rfl,rfl⟩:=trodVars_none hV;simp only[List.append_nil]at e;subst e;have Z:∀ x∈r,W.sameAt W' x:=λx hx=>hb.same (Y x hx)
 have a6:(Value.bool true).resultList f.resultTypes.size=[.bool true]:=by rw[O];rfl
 have hr:∀ (b:Nat) (M:Nat->Bool) (hd:Bool),DataW.TrodAll enc P W' b M hd f.resultTypes.toList ((Value.bool true).resultList f.resultTypes.size) (s.fn H (ds++[])).results []:=by
  intro b M hd;rw[a6,a2,O];exact trodAll_mk1 (shut_bool y true)
 have ha:∀ (M:Nat->Bool),(∀ x∈r,M x.block=true)->DataW.TrodAll enc P W' 0 M true f.params.toList I.toList (s.fn H (ds++[])).args r:=by
  intro M a7;rw[R];exact mC hl a0 hA Z a7
 have hv:∀ (M:Nat->Bool),DataW.TrodVars enc P W' M s.vars (s.fn H (ds++[])).vars []:=by
  intro M;rw[J,a5];rfl
 refine⟨ds,[],r,[],r,[],a4,hr _ _ _,ha _ (λx hx=>by simpa using Y x hx),hv _,hb.frame _,λ_=>⟨ok_one O rfl (okWide_bool_mk y true),_,_,([]++r)++[],⟨[]++r,[],trodAll_append (ha _ (λ_ _=>rfl)) (hr _ _ _),hv _,rfl,?_,?_⟩,?_⟩⟩
 ·intro b off hp;have hp:MemPlace.cell b off∈r:=by simpa using hp
  rw[hb.frozen (p:=⟨b,off,none⟩) (Y _ hp)];exact hz b off hp
 ·intro a3;have:=hn a3;simpa using this
 ·intro x hx _;simpa using hx
end
section
variable {H:Type} {enc:TypeId×Value->H} {P:Program} {w:World} {base:Nat} {spare:Nat->Bool} {held:Bool}
def shF (P:Program)(g:Ty->TypeId->Bool):List Field->Nat->Ty->Bool
 |[],_,_=>false
 |[f],off,b=>BJ f.offset off&&BJ (P.cellsOf f.type) b.cells&&g b f.type
 |f::r,off,.pair b c=>BJ f.offset off&&BJ (P.cellsOf f.type) b.cells&&g b f.type&&shF P g r (off+b.cells) c
 |_,_,_=>false
def shT (P:Program):Nat->Ty->TypeId->Bool
 |0,_,_=>false
 |n+1,a,t=>match a with
  |.int k=>(match P.underlying t with|some (.int k')=>decide (k'=k)|_=>false)
  |.bool=>(match P.underlying t with|some .bool=>true|_=>false)
  |.str=>(match P.underlying t with|some .string=>true|_=>false)
  |.pair b c=>(match P.underlying t with|some (.struct fs)=>shF P (shT P n) fs.toList 0 (.pair b c)&&BJ (P.cellsOf t) (b.cells+c.cells)|_=>false)
  |.list _ E e=>(match P.underlying t with|some (.slice E')=>BJ E' E&&BJ (P.cellsOf E) e.cells&&Cb 0 e.cells&&shT P n e E|_=>false)
  |.unit=>false
  |.hdr=>false
def Sm:(a:Ty)->a.den->Prop
 |.int k,n=>(Lit.int k n).wf=true
 |.pair a b,x=>Sm a x.1/\Sm b x.2
 |.list _ _ e,r=>r.length<=maxLen/\∀ x∈(r:List e.den),Sm e x
 |.bool,_=>True
 |.str,s=>s.size<=maxLen
 |.unit,_=>True
 |.hdr,_=>True
theorem kN {α β:Type}{f:α->Option β}:∀ (l:List α) (r:List β),l.mapM f=some r->r.length=l.length/\∀ (i:Nat) (x:α),l[i]?=some x->∃ y,f x=some y/\r[i]?=some y
 |[],r,h=>by
  simp at h;subst h;exact⟨rfl,λi x R=>by simp at R⟩
 |x::l,r,h=>by
  rw[Ch]at h;cases J:f x with
  |none=>rw[J]at h;cases h
  |some y =>
   rw[J]at h;cases z:l.mapM f with
   |none=>rw[z]at h;cases h
   |some O =>
    rw[z]at h;cases h;obtain⟨M,X⟩:=kN l O z;refine⟨by simp[M],λi u I=>?_⟩;cases i with
    |zero=>simp at I;subst I;exact⟨y,J,rfl⟩
    |succ i=>simpa using X i u (by simpa using I)
theorem rO {a:Addr}{n:Nat}{cs:List Value}(h:w.cells? base a n=some cs):base<=a.block/\cs.length=n/\∀ i u,cs[i]?=some u->w.cell? (a.add i)=some u:=by
 unfold World.cells? at h;split at h
 ·rename_i O;obtain⟨r,J⟩:=kN _ _ h;refine⟨O,by simpa using r,λi u z=>?_⟩;have M:i<n:=by have:=(BK.1 z).1;rw[r]at this;simpa using this
  obtain⟨y,R,I⟩:=J i i (by simp[M]);rw[z]at I;cases I;exact R
 ·cases h
theorem oz {g:Ty->TypeId->Bool}{rd:TypeId->List Value->Option (DataW H×List MemPlace)}
  (Z:∀ b t,g b t=true->∀ cs d,rd t cs=some d->∃ x:b.den,Rd w (λk=>k<w.heap.size) b x cs/\Sm b x) :
  ∀ (fs:List Field) (off:Nat) (b:Ty),shF P g fs off b=true->∀ (cs:List Value),cs.length=off+b.cells ->
   (∀ f∈fs,∃ d,rd f.type ((cs.drop f.offset).take (P.cellsOf f.type))=some d)->∃ x:b.den,Rd w (λk=>k<w.heap.size) b x (cs.drop off)/\Sm b x
 |[],_,_,h=>by simp[shF]at h
 |[f],off,b,h=>by
  intro cs I M;simp only[shF,BC]at h;obtain⟨⟨u,r⟩,O⟩:=h;have u:=BH u;have r:=BH r;obtain⟨d,J⟩:=M f (BG ..);rw[u,r,List.take_of_length_le (by simp;omega)]at J;exact Z b f.type O _ d J
 |f::z::fs,off,.pair b c,h=>by
  intro cs I M;simp only[shF,BC]at h;obtain⟨⟨⟨u,r⟩,O⟩,h4⟩:=h;have u:=BH u;have r:=BH r;have I:cs.length=off+(b.cells+c.cells):=I;obtain⟨d,J⟩:=M f (BG ..);rw[u,r]at J;obtain⟨x,hx,X⟩:=Z b f.type O _ d J;obtain⟨y,hy,R⟩:=oz Z (z::fs) (off+b.cells) c h4 cs (by omega) (λf0 Y=>M f0 (BF _ Y));refine⟨(x,y),⟨_,_,?_,hx,hy⟩,X,R⟩;rw[<- Cf,List.take_append_drop]
 |f::z::fs,off,.int _,h=>by simp[shF]at h
 |f::z::fs,off,.bool,h=>by simp[shF]at h
 |f::z::fs,off,.str,h=>by simp[shF]at h
 |f::z::fs,off,.unit,h=>by simp[shF]at h
 |f::z::fs,off,.list _ _ _,h=>by simp[shF]at h
 |f::z::fs,off,.hdr,h=>by simp[shF]at h
theorem oA {β:Type}(Q:Nat->β->Prop):∀ (n:Nat),(∀ i,i<n->∃ x,Q i x)->∃ u:List β,u.length=n/\∀ i x,u[i]?=some x->Q i x
 |0,_=>⟨[],rfl,λi x h=>by simp at h⟩
 |n+1,h=>by
  obtain⟨u,I,O⟩:=oA Q n (λi M=>h i (by omega));obtain⟨x,J⟩:=h n (by omega);refine⟨u++[x],by simp[I],λi y r=>?_⟩;by_cases M:i<n
  ·rw[Bx (by omega)]at r;exact O i y r
  ·have z:i<(u++[x]).length:=(BK.1 r).1;have:i=n:=by simp at z;omega
   subst this;rw[BZ (by omega),I,Nat.sub_self]at r;simp at r;subst r;exact J
theorem qO:∀ (n:Nat) (a:Ty) (t:TypeId),shT P n a t=true->∀ (I:Nat) (cs:List Value) (d:DataW H×List MemPlace),DataW.trod enc P w base spare held I t cs=some d ->
    ∃ x:a.den,Rd w (λk=>k<w.heap.size) a x cs/\Sm a x
  |0,_,_,h=>by simp[shT]at h
  |n+1,a,t,h=>by
    intro I cs d r;cases I with
    |zero=>simp[DataW.trod]at r
    |succ I =>
      cases a with
      |int k =>
        simp only[shT]at h;split at h
        · rename_i k' O
          have hk:=of_decide_eq_true h;subst hk;simp only[DataW.trod,O]at r;split at r <;> first|(rename_i M;cases M;done)|skip
          all_goals first
            | (rename_i k1 k2 m J
               cases J;split at r
               · rename_i hw
                 obtain⟨rfl,hw⟩:=hw;exact⟨m,rfl,hw⟩
               · cases r)
            |cases r
        · cases h
      |bool =>
        simp only[shT]at h;split at h
        · rename_i O
          simp only[DataW.trod,O]at r;split at r <;> first|(rename_i M;cases M;done)|skip
          all_goals first
            |(rename_i b J;exact⟨b,rfl,trivial⟩)
            |cases r
        · cases h
      |str =>
        simp only[shT]at h;split at h
        · rename_i O
          simp only[DataW.trod,O]at r;split at r <;> first|(rename_i M;cases M;done)|skip
          all_goals first
            | (rename_i b J
               split at r
               · rename_i hb
                 exact⟨b,rfl,hb⟩
               · cases r)
            |cases r
        · cases h
      |unit=>simp[shT]at h
      |hdr=>simp[shT]at h
      |pair b c =>
        simp only[shT]at h;split at h
        · rename_i fs O
          simp only[BC]at h;obtain⟨h1,X⟩:=h;have X:=BH X;simp only[DataW.trod,O]at r;split at r
          · rename_i a3
            simp only[BI]at r;obtain⟨ys,b2,_⟩:=r;obtain⟨h3,h4⟩:=kN _ _ b2;have:=oz (w:=w) (rd:=DataW.trod enc P w base spare held I) (λb t hb cs d r=>qO n b t hb I cs d r) fs.toList 0 (.pair b c) h1 cs (by rw[a3,X,CG];rfl) (λf hf=>by
              obtain⟨i,hi,e⟩:=Cn hf;obtain⟨y,h5,_⟩:=h4 i f (by rw[BR hi,e]);exact⟨y,h5⟩)
            simpa using this
          · cases r
        · cases h
      |list m E e =>
        simp only[shT]at h;split at h
        · rename_i E' O
          simp only[BC]at h;obtain⟨⟨⟨h1,X⟩,h3⟩,h4⟩:=h;have h1:=BH h1;subst h1;have X:=BH X;have h3:0<e.cells:=by simpa[CI]using h3
          simp only[DataW.trod,O]at r;split at r <;> first|(rename_i M;cases M;done)|skip
          all_goals first
            |cases r;done
            |skip
          · exact⟨[],Rd.nil w _ m _ e,Cz _,by simp⟩
          · rename_i E2 R a7 a8 J
            cases J;split at r
            · rename_i hc
              obtain⟨b3,b5,b9⟩:=hc;obtain⟨b6,a5,_⟩:=B4.1 r;obtain⟨h5,h6⟩:=kN _ _ a5;have a9:∀ i,i<a7->∃ x:e.den,∃ c,w.cells? base (R.add (i*e.cells)) e.cells=some c/\Rd w (λk=>k<w.heap.size) e x c/\Sm e x:=by
                intro i hi;obtain⟨y,h7,_⟩:=h6 i i (by simp[hi]);obtain⟨c,h8,h9⟩:=B4.1 h7;rw[X]at h8;obtain⟨x,hx,b1⟩:=qO n e _ h4 I c y h9;exact⟨x,c,h8,hx,b1⟩
              obtain⟨xs,b4,Z⟩:=oA (λi (x:e.den)=>∃ c,w.cells? base (R.add (i*e.cells)) e.cells=some c/\Rd w (λk=>k<w.heap.size) e x c/\Sm e x) a7 a9;refine⟨xs,⟨some R,a8,by rw[b4],by omega,λhp=>?_⟩,by omega,λx hx=>?_⟩
              · have b0:0<xs.length:=hp
                obtain⟨c,Y,a2,_⟩:=Z 0 xs[0] (BR b0);obtain⟨_,ba,a1⟩:=rO Y;have h0:0<c.length:=by omega
                have z:=a1 0 c[0] (BR h0);have e0:(R.add (0*e.cells)).add 0=R:=by simp[Addr.add]
                rw[e0]at z;have a0:R.spot=none/\R.block<w.heap.size:=by
                  unfold World.cell? at z;split at z
                  · rename_i hh
                    split at z
                    · cases z
                    · rename_i hs
                      refine⟨by simpa using hs,(CS.1 hh).1⟩
                  · cases z
                obtain⟨g,o,sp⟩:=R;obtain⟨a6,a4⟩:=a0;simp only at a6 a4;subst a6;refine⟨g,o,rfl,a4,λj x hj=>?_⟩;obtain⟨c,Y,a2,_⟩:=Z j x hj;obtain⟨_,_,a1⟩:=rO Y;refine⟨c,a2,λi u hi=>?_⟩;have:=a1 i u hi
                rwa [eU,eU]at this
              · obtain⟨j,hj,e1⟩:=Cn hx
                obtain⟨c,_,_,hs⟩:=Z j x (by rw[BR hj,e1]);exact hs
            · cases r
        · cases h
end
section
variable {H:Type} {enc:TypeId×Value->H} {P:Program} {w:World}
theorem zd {n:Nat}{a:Ty}{t:TypeId}(r:shT P (n+1) a t=true){v:Value}{d:DataW H}{p:List MemPlace}(J:DataW.Trod enc P w 0 (λ_=>true) true t v d p){base:Nat}(u:C8 P w .any base t v) :
  ∃ x:a.den,(∃ I,dg a.isAgg v I/\Rd w (λk=>k<w.heap.size) a x I)/\Sm a x:=by
 obtain⟨z,J⟩:=J;obtain⟨x,O,M⟩:=qO (n+1) a t r z _ _ J;refine⟨x,⟨v.cells.toList,?_,O⟩,M⟩;cases a with
 |int k =>
  simp only[shT]at r;split at r
  ·rename_i Z y;obtain⟨n,rfl⟩:=okWide_int y u;rfl
  ·cases r
 |bool =>
  simp only[shT]at r;split at r
  ·rename_i y;obtain⟨n,rfl⟩:=okWide_bool y u;rfl
  ·cases r
 |str =>
  simp only[shT]at r;split at r
  ·rename_i y;obtain⟨n,rfl⟩:=okWide_string y u;rfl
  ·cases r
 |list m E e =>
  simp only[shT]at r;split at r
  ·rename_i E' y;obtain⟨A,R,X,rfl⟩:=okWide_slice y u;rfl
  ·cases r
 |unit=>simp[shT]at r
 |hdr=>simp[shT]at r
 |pair b c =>
  simp only[shT]at r;split at r
  ·rename_i Y y;obtain⟨I,rfl,_⟩:=okWide_struct y u;show Value.agg I=.agg (Value.agg I).cells.toList.toArray;simp[Value.cells]
  ·cases r
def Sms:(as:List Ty)->ab (as.map .rd)->Prop
 |[],_=>True
 |a::as,x=>Sm a x.1/\Sms as x.2
def tT (P:Program):List Ty->List TypeId->Bool
 |[],[]=>true
 |a::as,t::r=>shT P 64 a t&&tT P as r
 |_,_=>false
theorem rP {pr:Nat->Prop}:∀ (as:List Ty) (z:List TypeId) (u:List Value) (ds:List (DataW H)) (ps:List MemPlace),tT P as z=true->DataW.TrodAll enc P w 0 (λ_=>true) true z u ds ps ->
  (∃ r,∀ (j:Nat) (t:TypeId) (v:Value),z[j]?=some t->u[j]?=some v->C8 P w .any r t v)->∃ x:ab (as.map .rd),db P w (λk=>k<w.heap.size) pr (as.map .rd) x u (as.map λ_=>[])/\Sms as x
 |[],[],[],[],_,_,_,_=>⟨(),⟨rfl,rfl⟩,trivial⟩
 |[],[],[],_::_,_,_,h,_=>h.elim
 |[],[],_::_,_,_,_,h,_=>h.elim
 |[],_::_,_,_,_,h,_,_=>by simp[tT]at h
 |_::_,[],_,_,_,h,_,_=>by simp[tT]at h
 |_::_,_::_,[],_,_,_,h,_=>h.elim
 |_::_,_::_,_::_,[],_,_,h,_=>h.elim
 |a::as,t::z,v::u,d::ds,ps,J,⟨p,q,h1,X,_⟩,⟨r,I⟩=>by
  simp only[tT,BC]at J;obtain⟨x,hx,O⟩:=zd (n:=63) J.1 h1 (I 0 t v rfl rfl);obtain⟨y,hy,M⟩:=rP as z u ds q J.2 X ⟨r,λj R Y Z h4=>I (j+1) R Y (by simpa using Z) (by simpa using h4)⟩;exact⟨(x,y),⟨v,u,[],_,rfl,rfl,⟨rfl,hx⟩,hy⟩,O,M⟩
theorem ze (tys:List Ty):(tys.map λ_=>([]:List Nat)).flatten=[]:=by
 induction tys with
 |nil=>rfl
 |cons a tys r=>simp
theorem x4 {f:FuncId}{tys:List Ty}{y:Bool}{I:ab (tys.map PK.rd)->Option (ai [.v .bool]×ah (tys.map PK.rd))}(hs:bQ P ⟨f,tys.map .rd,[.v .bool],y,I⟩){x:ab (tys.map .rd)}{Y:List Value}{o:ah (tys.map .rd)}
  (hx:db P w (λk=>k<w.heap.size) (λk=>k<w.heap.size) (tys.map .rd) x Y (tys.map λ_=>[])) (hd:I x=some ((true,()),o)):Calls P f Y.toArray w (λe w'=>e=.returned (.bool true)/\Below w.heap.size w w'):=by
 have R:=ze tys;have:=hs.2 w (λk=>k<w.heap.size) x Y _ _ (hx.mono (λ_ h=>h) (λk M=>⟨M,by rw[R];simp⟩)) (λk M=>⟨M,by rw[R];simp⟩) (by rw[R];exact CU) hd;refine this.mono λe w' hp=>?_
 obtain⟨v,us,N,a5,a6,rfl,r,X,Z,a0,a2,a1,_,_,J,_,_⟩:=hp;refine⟨?_,⟨Z,a0,a2,X,λk M=>a1 k M (by rw[R];simp)⟩⟩;obtain⟨u,a4,b,a3,e1,e2,⟨cs,z,O⟩,e3,e4⟩:=J;subst e3;subst e1;have r:v=u:=r;subst r;have z:cs=[v]:=z;have O:cs=[.bool true]:=O.1;rw[z]at O;simp only[Cc,and_true]at O;rw[O]
end
end Go.Proofs.YtadlacffdemoiaaGreatEv
