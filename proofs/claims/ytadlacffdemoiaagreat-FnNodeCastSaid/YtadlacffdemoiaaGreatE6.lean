/- One operation looks at some slots alone. -/
import Derived.Test.YtadlacffdemoiaaGreatE3
import Derived.Laws.StructEq
import Derived.Lib.SliceRun
import Derived.ProofKit
set_option linter.unusedVariables false
set_option linter.unusedSimpArgs false
open Array renaming getElem?_eq_getElem->BM,getD_eq_getD_getElem?->BN,replicate->CC,all_eq_true_iff_forall_mem->CN,getElem?_eq_some_iff->CW,getElem?_append_left->CX,getElem?_replicate->Cd,mem_of_getElem?->Ci,length_toList->Co,mem_append->C0
open Bool renaming and_eq_true->BC,not_eq_true'->CE,or_eq_true->CR,false_eq_true->CU,and_false->CV,and_true->Cc,true_and->Cs,not_false->DA
open Classical renaming byContradiction->B5
open Go.ByteArray renaming toList_eq->Cq
open Go.Result renaming andThen_ok->CI
open Go.Sem renaming run_bind->CO,run_pure->Cx
open Go.Value renaming okWide->DC
open List renaming mem_append->BB,mem_append_left->BD,mem_append_right->BE,mem_cons_of_mem->BF,mem_cons_self->BG,getElem?_eq_some_iff->BK,mem_map->BL,mem_cons->BO,getD_eq_getElem?_getD->BP,flatten_cons->BQ,getElem?_eq_getElem->BR,mem_flatMap->BT,count_append->BU,mem_singleton_self->BV,count_pos_iff->BW,all_eq_true->BX,map_cons->BY,getElem?_append_right->BZ,getElem?_append_left->B4,append_assoc->B7,nil_append->B9,mem_singleton->CA,nodup_cons->CB,length_cons->CG,nodup_append->CH,mem_filter->CL,any_eq_true->CQ,map_append->CS,count_cons->CT,nodup_nil->CY,count_eq_zero->CZ,any_eq_false->Ca,all_cons->Cb,getElem?_cons_succ->Ce,getElem?_eq_none->Ch,drop_drop->Cj,mapM_cons->Cl,map_congr_left->Cn,countP_eq_zero->Cp,getElem_of_mem->Cr,set_cons_succ->Ct,find?_eq_none->Cv,getElem?_map->Cw,size_toArray->Cy,mem_toArray->Cz,countP_cons->C3,foldl_cons->C7,range->C9,map_nil->DB
open List.cons renaming injEq->Cg
open Nat renaming eq_of_beq_eq_true->BH,beq->BJ,le_of_ble_eq_true->B6,lt_succ_self->CJ,zero_add->CK,blt_eq->CM,blt->Cf,le_refl->Ck,ble->Cm,lt_of_lt_of_le->Cu,zero_le->C5,strongRecOn->C8
open Option renaming map_eq_some_iff->BI,map_some->B3,bind_eq_some_iff->B8,bind_assoc->CD,bind_some->CF,bind_none->CP,getD_some->C4
open Option.some renaming injEq->BA,inj->C6
open Prod.mk renaming injEq->BS
namespace Go.Proofs.YtadlacffdemoiaaGreatEv
open Go Go.RowKit
section
variable {P:Program} {V:Env} {Γ:List Ctr} {T:TypeId->TI} {st st':St} {o:Oper} {R:Type} {κ:Upd->Option R} {r:R}
theorem gC {α β:Type}(b:Bool)(x y:Option α)(f:α->Option β):(bif b then x else y).bind f=bif b then x.bind f else y.bind f:=by cases b <;> rfl
theorem wo {b:Option (Bool×Nat×Nat)}{U:Upd}:jN st b U κ=(jN st b U some).bind κ:=by
 unfold jN;split
 ·split
  ·simp only[CD];congr 1;funext y;split <;> rfl
  ·rfl
 ·rfl
theorem wq {d:Nat}{f:FuncId}{xs:List (aH×List Leaf)}:jm Γ st d f xs κ=(jm Γ st d f xs some).bind κ:=by
 unfold jm;cases lK Γ f with
 |none=>rfl
 |some c =>
  simp only[gB,CD];congr 1;funext u;cases oI Γ (ac u.1 st) c.ps u.2.1 with
  |none=>rfl
  |some g =>
   simp only[gC,CD,CP];congr 2;funext y;exact wo
theorem mD {z:St}{H:Upd}{d:Nat}{E:TypeId}{e:Ty}{u:Nat}{p:Bool}{xs:List e.den}{ks:List (Nat×Nat)}{y:Leaf}:dS st z H d E e u p xs ks y κ=(dS st z H d E e u p xs ks y some).bind κ:=by
 unfold dS;split
 ·simp only[gC,CP,CF]
 ·rfl
theorem tA {z:Upd}{d:Nat}{E:TypeId}{e:Ty}{u:Nat}{x y:Leaf}:el st z d E e u x y κ=(el st z d E e u x y some).bind κ:=by
 unfold el;split
 ·split
  ·rw[gC,<- mD];rfl
  ·rfl
 ·exact mD
 ·rfl
theorem tB {d:Nat}{E:TypeId}{e:Ty}{u:Nat}{x y:Leaf}:it st d E e u x y κ=(it st d E e u x y some).bind κ:=by
 unfold it;simp only[gY,gC,CD,<- tA]
theorem nl {r j i off n:Nat}{p:Bool}{E:TypeId}{e:Ty}{xs:List e.den}{h:Option (Nat×Nat)}{ls:List Leaf}:gH st r j i off n p E e xs h ls κ=(gH st r j i off n p E e xs h ls some).bind κ:=by
 unfold gH;simp only[CD];congr 1;funext u;split
 ·rw[gC];congr 1;split
  ·rfl
  ·simp only[gC,CF,CP]
 ·rfl
theorem tC:act Γ T o st κ=(act Γ T o st some).bind κ:=by
 cases u:o.op <;> simp only[act,wrU,u] <;> (repeat' split) <;>
  (try simp only[gC,CD,CP,CF]) <;> (try rfl) <;> (try exact wq) <;> (try (rw[tB];done)) <;> (try (rw[nl];done)) <;> (try (rw[<- nl];done))
theorem bj {q:Nat}(h:st' q=st q):∀ (U:Upd),ac U st' q=ac U st q
 |[]=>h
 |(r,c)::U=>by simp only[ac,bj h U]
theorem dR {x:Operand}(h:∀ t,x=.tmp t->st' t=st t):au st' x=au st x:=by
 cases x with
 |tmp t=>simp only[au,h t rfl]
 |_=>rfl
theorem dD {x:Operand}(h:∀ t,x=.tmp t->st' t=st t):one st' x=one st x:=by
 unfold one;rw[dR h]
theorem lf:∀ (u y:List Leaf),aw (u++y)=aw u++aw y
 |[],_=>rfl
 |l::u,y=>by cases l <;> simp[aw,lf u y]
theorem aL (l:Leaf)(ls:List Leaf):aw (l::ls)=aw [l]++aw ls:=lf [l] ls
theorem fA:∀ (n:Nat) (ls:List Leaf) (q:Nat),q∈aw (ls.drop n)->q∈aw ls
 |0,_,_,h=>h
 |n+1,[],_,h=>h
 |n+1,l::ls,q,h=>by rw[aL];exact BE _ (fA n ls q h)
theorem rB:∀ (n:Nat) (ls:List Leaf) (q:Nat),q∈aw (ls.take n)->q∈aw ls
 |0,_,_,h=>by simp[aw]at h
 |n+1,[],_,h=>by simp[aw]at h
 |n+1,l::ls,q,h=>by
  rw[List.take_succ_cons,aL,BB]at h;rw[aL,BB];exact h.imp id (rB n ls q)
theorem qI:∀ {ls:List Leaf} {k:Nat} {l:Leaf},ls[k]?=some l->∀ q∈aw [l],q∈aw ls
 |[],_,_,h,_,_=>by simp at h
 |y::ls,0,l,h,q,u=>by simp at h;subst h;rw[aL];exact BD _ u
 |y::ls,k+1,l,h,q,u=>by rw[aL];exact BE _ (qI (by simpa using h) q u)
theorem jB {ks:List (Nat×Nat×Nat)}{ep:Nat}(h:∀ q∈EPO::ks.map (·.1),st' q=st q):bm st' ks ep=bm st ks ep:=by
 unfold bm;rw[h EPO (BG ..)];congr 1;induction ks with
 |nil=>rfl
 |cons k ks y =>
  rw[Cb,Cb,y (λq u=>h q (by simp at u ⊢;rcases u with u|u;exact .inl u;exact .inr (.inr u))),h k.1 (by simp)]
theorem ip {p:Bool}{ks:List (Nat×Nat×Nat)}{ep:Nat}{u:Option (Nat×Nat×Nat)}{E:TypeId}{e:Ty}{xs:List e.den}:aw [.nal p ks ep u E e xs]=EPO::ks.map (·.1):=by simp[aw]
theorem vd {p:Bool}{ks:List (Nat×Nat×Nat)}{ep:Nat}{a:Ty}{x:a.den}{off:Nat}:aw [.np p ks ep a x off]=EPO::ks.map (·.1):=by simp[aw]
theorem ci {l:Leaf}(h:∀ q∈aw [l],st' q=st q):aD st' l=aD st l:=by
 cases l with
 |al r j v=>simp only[aD,h r (by simp[aw])]
 |nal p y ep u E e z=>rw[ip]at h;simp only[aD,jB h]
 |_=>rfl
theorem jL:∀ (a:Ty) (ls:List Leaf) (p:Bool) (x:a.den) (u:List Leaf),aZ st a ls=some (p,x,u)->∃ I,ls=I++u
 |.int k,ls,p,x,u,h=>by
  simp only[aZ]at h;split at h
  ·split at h
   ·simp at h;exact⟨[_],by rw[<- h.2.2];rfl⟩
   ·cases h
  ·cases h
 |.bool,ls,p,x,u,h=>by
  simp only[aZ]at h;split at h
  ·simp at h;exact⟨[_],by rw[<- h.2.2];rfl⟩
  ·cases h
 |.str,ls,p,x,u,h=>by
  simp only[aZ]at h;split at h
  ·simp at h;exact⟨[_],by rw[<- h.2.2];rfl⟩
  ·cases h
 |.unit,ls,p,x,u,h=>by
  simp only[aZ,BA,BS]at h;exact⟨[],by rw[h.2.2];rfl⟩
 |.hdr,ls,p,x,u,h=>by
  simp only[aZ]at h;split at h
  ·split at h
   ·simp at h;exact⟨[_],by rw[<- h.2.2];rfl⟩
   ·cases h
  ·cases h
 |.pair a b,ls,p,x,u,h=>by
  simp only[aZ]at h;split at h
  ·rename_i q y H Y;split at h
   ·rename_i O z J M;simp at h;obtain⟨I,e1⟩:=jL a ls q y H Y;obtain⟨X,Z⟩:=jL b H O z J M;exact⟨I++X,by rw[e1,Z,h.2.2,B7]⟩
   ·cases h
  ·cases h
 |.list m E e,ls,p,x,u,h=>by
  simp only[aZ]at h;split at h
  ·split at h
   ·simp at h;exact⟨[_],by rw[<- h.2.2];rfl⟩
   ·cases h
  ·cases h
theorem gD:∀ (a:Ty) (ls:List Leaf),(∀ q∈aw ls,st' q=st q)->aZ st' a ls=aZ st a ls
 |.int k,ls,h=>rfl
 |.bool,ls,h=>rfl
 |.str,ls,h=>rfl
 |.unit,ls,h=>rfl
 |.hdr,ls,h=>by
  cases ls with
  |nil=>rfl
  |cons l ls =>
   simp only[aZ];rw[ci (l:=l) (λq z=>h q (by rw[aL];exact BD _ z))]
 |.pair a b,ls,h=>by
  simp only[aZ,gD a ls h];cases I:aZ st a ls with
  |none=>rfl
  |some x =>
   obtain⟨p,y,u⟩:=x;obtain⟨J,H⟩:=jL a ls p y u I;simp only;rw[gD b u (λq z=>h q (by rw[H,lf];exact BE _ z))]
 |.list m E e,ls,h=>by
  cases ls with
  |nil=>rfl
  |cons l ls =>
   simp only[aZ];rw[ci (l:=l) (λq z=>h q (by rw[aL];exact BD _ z))]
theorem eB {a:Ty}{ls:List Leaf}(h:∀ q∈aw ls,st' q=st q):cQ st' a ls=cQ st a ls:=by
 unfold cQ;rw[gD a ls h]
theorem nm {e:Ty}:∀ (n:Nat) (ls:List Leaf),(∀ q∈aw ls,st' q=st q)->fw st' e n ls=fw st e n ls
 |0,_,_=>rfl
 |n+1,ls,h=>by
  simp only[fw,eB (ls:=ls.take e.cells) (λq u=>h q (rB _ _ q u)),nm n (ls.drop e.cells) (λq u=>h q (fA _ _ q u))]
theorem jf:∀ {ls:List Leaf},(∀ q∈aw ls,st' q=st q)->bu st' ls=bu st ls
 |[],_=>rfl
 |l::ls,h=>by
  have y:=jf (ls:=ls) (λq u=>h q (by rw[aL];exact BE _ u));cases l with
  |al r j v=>simp only[bu,y,ci (l:=.al r j v) (λq u=>h q (by rw[aL];exact BD _ u))]
  |nal p H ep z E e I=>simp only[bu,y,ci (l:=.nal p H ep z E e I) (λq u=>h q (by rw[aL];exact BD _ u))]
  |_=>simpa[bu]using y
theorem o9:∀ {ls:List Leaf},(∀ q∈aw ls,st' q=st q)->b6 st' ls=b6 st ls
 |[],_=>rfl
 |l::ls,h=>by
  have y:=o9 (ls:=ls) (λq u=>h q (by rw[aL];exact BE _ u));cases l with
  |al r j v=>simp only[b6,y,ci (l:=.al r j v) (λq u=>h q (by rw[aL];exact BD _ u))]
  |_=>simpa[b6]using y
theorem qJ:∀ {ls:List Leaf},(∀ q∈aw ls,st' q=st q)->dw st' ls=dw st ls
 |[],_=>rfl
 |l::ls,h=>by
  have u:=qJ (ls:=ls) (λq y=>h q (by rw[aL];exact BE _ y));cases l with
  |nal p H ep z E e I =>
   cases z with
   |none=>simp only[dw,u,ci (l:=.nal p H ep none E e I) (λq y=>h q (by rw[aL];exact BD _ y))]
   |some x=>simpa[dw]using u
  |_=>simpa[dw]using u
theorem pa {ls:List Leaf}(h:∀ q∈aw ls,st' q=st q):dH st' ls=dH st ls:=by
 unfold dH;induction ls with
 |nil=>rfl
 |cons l ls y =>
  rw[BY,BY,y (λq u=>h q (by rw[aL];exact BE _ u))];unfold gi;rw[ci (λq u=>h q (by rw[aL];exact BD _ u))]
theorem eu:∀ {ls:List Leaf} {x:Nat×Nat},x∈bu st ls->x.1∈aw ls
 |[],_,h=>by simp[bu]at h
 |l::ls,x,h=>by
  cases l with
  |al r j v =>
   simp only[bu,BB]at h;rcases h with h|h
   ·split at h
    ·simp at h;subst h;simp[aw]
    ·simp at h
   ·rw[aL];exact BE _ (eu h)
  |nal p z ep y E e H =>
   simp only[bu,BB]at h;rcases h with h|h
   ·split at h
    ·obtain⟨k,u,rfl⟩:=BL.1 h;rw[aL,ip];exact BD _ (BF _ (BL.2 ⟨k,u,rfl⟩))
    ·simp at h
   ·rw[aL];exact BE _ (eu h)
  |_=>(simp only[bu]at h;rw[aL];exact BE _ (eu h))
theorem jg:∀ {ls:List Leaf} {x:Nat×Nat},x∈b6 st ls->x.1∈aw ls
 |[],_,h=>by simp[b6]at h
 |l::ls,x,h=>by
  cases l with
  |al r j v =>
   simp only[b6,BB]at h;rcases h with h|h
   ·split at h
    ·simp at h;subst h;simp[aw]
    ·simp at h
   ·rw[aL];exact BE _ (jg h)
  |_=>(simp only[b6]at h;rw[aL];exact BE _ (jg h))
theorem hM:∀ {ls:List Leaf} {x:Nat×Nat},x∈dw st ls->x.1∈aw ls
 |[],_,h=>by simp[dw]at h
 |l::ls,x,h=>by
  cases l with
  |nal p H ep u E e I =>
   cases u with
   |none =>
    simp only[dw,BB]at h;rcases h with h|h
    ·split at h
     ·obtain⟨k,z,rfl⟩:=BL.1 h;rw[aL,ip];exact BD _ (BF _ (BL.2 ⟨k,z,rfl⟩))
     ·simp at h
    ·rw[aL];exact BE _ (hM h)
   |some y=>(simp only[dw]at h;rw[aL];exact BE _ (hM h))
  |_=>(simp only[dw]at h;rw[aL];exact BE _ (hM h))
theorem iq:∀ {ks:List (Nat×Nat)},(∀ x∈ks,st' x.1=st x.1)->aM st' ks=aM st ks
 |[],_=>rfl
 |(r,j)::ks,h=>by
  simp only[aM,iq (ks:=ks) (λx u=>h x (BF _ u)),bj (h (r,j) (BG ..))]
theorem kb:∀ {ks:List (Nat×Nat)},(∀ x∈ks,st' x.1=st x.1)->aE st' ks=aE st ks
 |[],_=>rfl
 |(r,j)::ks,h=>by
  simp only[aE,kb (ks:=ks) (λx u=>h x (BF _ u)),bj (h (r,j) (BG ..))]
theorem tD {ls:List Leaf}(h:∀ q∈aw ls,st' q=st q):mvU st' ls=mvU st ls:=by
 unfold mvU;rw[qJ h,o9 h,kb (λx u=>h _ (hM u))];simp only;rw[iq (λx u=>bj (h _ (jg u)) _)]
theorem qK {ls:List Leaf}(h:∀ q∈aw ls,st' q=st q):hX st' ls=hX st ls:=by
 unfold hX;rw[qJ h,o9 h]
theorem jh:∀ (a:Ty) (ls:List Leaf),(∀ q∈aw ls,st' q=st q)->take st' a ls=take st a ls
 |.int k,ls,h=>by simp only[take,gD (.int k) ls h]
 |.bool,ls,h=>by simp only[take,gD .bool ls h]
 |.str,ls,h=>by simp only[take,gD .str ls h]
 |.unit,ls,h=>rfl
 |.hdr,ls,h=>by simp only[take,gD .hdr ls h]
 |.pair a b,ls,h=>by
  simp only[take,jh a ls h];cases H:take st a ls with
  |none=>rfl
  |some x =>
   have z:=ka.take_rest a ls x H;simp only;rw[jh b x.rest (λq u=>h q (fA a.cells ls q (by rw[<- z];exact u)))]
 |.list m E e,ls,h=>by
  cases ls with
  |nil=>rfl
  |cons l ls =>
   have y:∀ q∈aw [l],st' q=st q:=λq u=>h q (by rw[aL];exact BD _ u)
   simp only[take,ci y,jf y];congr 1;split
   ·rename_i r j v;rw[ci y]
   ·rfl
   ·rfl
theorem gQ {a:Ty}{ls:List Leaf}(h:∀ q∈aw ls,st' q=st q):cg st' a ls=cg st a ls:=by
 unfold cg;rw[jh a ls h]
theorem nW:∀ (a:Ty) (ls:List Leaf) (t:cM a.den),take st a ls=some t->(∀ z∈t.frz,z.1∈aw ls)/\∀ z∈t.kill,z.1∈aw ls
 |.int k,ls,t,h=>by simp only[take,BI]at h;obtain⟨_,_,rfl⟩:=h;exact⟨by simp,by simp⟩
 |.bool,ls,t,h=>by simp only[take,BI]at h;obtain⟨_,_,rfl⟩:=h;exact⟨by simp,by simp⟩
 |.str,ls,t,h=>by simp only[take,BI]at h;obtain⟨_,_,rfl⟩:=h;exact⟨by simp,by simp⟩
 |.hdr,ls,t,h=>by simp only[take,BI]at h;obtain⟨_,_,rfl⟩:=h;exact⟨by simp,by simp⟩
 |.unit,ls,t,h=>by simp only[take,BA]at h;subst h;exact⟨by simp,by simp⟩
 |.pair a b,ls,t,h=>by
  simp only[take]at h;split at h
  ·rename_i x H;split at h
   ·rename_i y X;simp only[BA]at h;subst h;have Y:=ka.take_rest a ls x H;obtain⟨O,Z⟩:=nW a ls x H;obtain⟨J,M⟩:=nW b x.rest y X;rw[Y]at J M;exact⟨λz u=>(BB.1 u).elim (O z) (λu=>fA _ _ _ (J z u)),λz u=>(BB.1 u).elim (Z z) (λu=>fA _ _ _ (M z u))⟩
   ·cases h
  ·cases h
 |.list m E e,ls,t,h=>by
  cases ls with
  |nil=>simp[take]at h
  |cons l ls =>
   have I:∀ q∈aw [l],q∈aw (l::ls):=λq hq=>by rw[aL];exact BD _ hq
   cases m with
   |false =>
    simp only[take,cond_false]at h;split at h
    ·simp only[BA]at h;subst h;exact⟨λz u=>I _ (eu u),by simp⟩
    ·cases h
   |true =>
    simp only[take,cond_true]at h;split at h
    ·split at h
     ·simp only[BI]at h;obtain⟨_,_,rfl⟩:=h;exact⟨by simp,λz u=>by simp at u;subst u;exact I _ (by simp[aw])⟩
     ·cases h
    ·simp only[BA]at h;subst h;exact⟨by simp,by simp⟩
    ·cases h
theorem iW {a:Ty}{ls:List Leaf}{t:cM a.den}(h:cg st a ls=some t):(∀ z∈t.frz,z.1∈aw ls)/\∀ z∈t.kill,z.1∈aw ls:=by
 unfold cg at h;split at h
 ·rename_i p x f k u;simp only[BA]at h;subst h;exact nW a ls _ u
 ·cases h
theorem jW:∀ {off n:Nat} (a:Ty) (pos:Nat) (x:a.den) (ls:List Leaf) (t:cM a.den),da st off n a pos x ls=some t->∃ k,t.rest=ls.drop k
 |off,n,.pair a b,pos,x,ls,t,h=>by
  simp only[da]at h;split at h
  ·rename_i u M;split at h
   ·rename_i v z;simp only[BA]at h;subst h;obtain⟨y,I⟩:=jW a pos x.1 ls u M;obtain⟨J,H⟩:=jW b (pos+a.cells) x.2 u.rest v z;exact⟨y+J,by show v.rest=_;rw[H,I,Cj]⟩
   ·cases h
  ·cases h
 |off,n,.unit,pos,x,ls,t,h=>by simp only[da,BA]at h;subst h;exact⟨0,rfl⟩
 |off,n,.hdr,pos,x,ls,t,h=>by simp[da]at h
 |off,n,.int k,pos,x,ls,t,h=>sc (a:=.int k) h
 |off,n,.bool,pos,x,ls,t,h=>sc (a:=.bool) h
 |off,n,.str,pos,x,ls,t,h=>sc (a:=.str) h
 |off,n,.list m E e,pos,x,ls,t,h=>sc (a:=.list m E e) h
where
 sc {a:Ty} {b:Bool} {x:a.den} {ls:List Leaf} {t:cM a.den} (h:(bif b then take st a ls else some ⟨false,x,[],[],ls⟩)=some t):∃ k,t.rest=ls.drop k:=by
  cases b with
  |true=>exact⟨_,ka.take_rest a ls t h⟩
  |false=>simp only[cond_false,BA]at h;subst h;exact⟨0,rfl⟩
theorem pb:∀ {off n:Nat} (a:Ty) (pos:Nat) (x:a.den) (ls:List Leaf),(∀ q∈aw ls,st' q=st q)->da st' off n a pos x ls=da st off n a pos x ls
 |off,n,.pair a b,pos,x,ls,h=>by
  simp only[da,pb a pos x.1 ls h];cases z:da st off n a pos x.1 ls with
  |none=>rfl
  |some u =>
   obtain⟨k,e⟩:=jW a pos x.1 ls u z;simp only;rw[pb b (pos+a.cells) x.2 u.rest (λq y=>h q (fA k ls q (by rw[<- e];exact y)))]
 |off,n,.unit,pos,x,ls,h=>rfl
 |off,n,.hdr,pos,x,ls,h=>rfl
 |off,n,.int k,pos,x,ls,h=>by simp only[da,jh (.int k) ls h]
 |off,n,.bool,pos,x,ls,h=>by simp only[da,jh .bool ls h]
 |off,n,.str,pos,x,ls,h=>by simp only[da,jh .str ls h]
 |off,n,.list m E e,pos,x,ls,h=>by simp only[da,jh (.list m E e) ls h]
theorem pc:∀ {off n:Nat} (a:Ty) (pos:Nat) (x:a.den) (ls:List Leaf) (t:cM a.den),da st off n a pos x ls=some t->(∀ z∈t.frz,z.1∈aw ls)/\∀ z∈t.kill,z.1∈aw ls
 |off,n,.pair a b,pos,x,ls,t,h=>by
  simp only[da]at h;split at h
  ·rename_i u J;split at h
   ·rename_i v M;simp only[BA]at h;subst h;obtain⟨k,e⟩:=jW a pos x.1 ls u J;obtain⟨O,X⟩:=pc a pos x.1 ls u J;obtain⟨H,I⟩:=pc b (pos+a.cells) x.2 u.rest v M;rw[e]at H I;exact⟨λz y=>(BB.1 y).elim (O z) (λy=>fA _ _ _ (H z y)),λz y=>(BB.1 y).elim (X z) (λy=>fA _ _ _ (I z y))⟩
   ·cases h
  ·cases h
 |off,n,.unit,pos,x,ls,t,h=>by simp only[da,BA]at h;subst h;exact⟨by simp,by simp⟩
 |off,n,.hdr,pos,x,ls,t,h=>by simp[da]at h
 |off,n,.int k,pos,x,ls,t,h=>sc (a:=.int k) h
 |off,n,.bool,pos,x,ls,t,h=>sc (a:=.bool) h
 |off,n,.str,pos,x,ls,t,h=>sc (a:=.str) h
 |off,n,.list m E e,pos,x,ls,t,h=>sc (a:=.list m E e) h
where
 sc {a:Ty} {b:Bool} {x:a.den} {ls:List Leaf} {t:cM a.den} (h:(bif b then take st a ls else some ⟨false,x,[],[],ls⟩)=some t):(∀ z∈t.frz,z.1∈aw ls)/\∀ z∈t.kill,z.1∈aw ls:=by
  cases b with
  |true=>exact nW a ls t h
  |false=>simp only[cond_false,BA]at h;subst h;exact⟨by simp,by simp⟩
theorem ve {U:Upd}{d:Nat}{sh:aH}{ls:List Leaf}(h:st' d=st d):cj st' U d sh ls=cj st U d sh ls:=by
 simp only[cj,bj h]
theorem rD:∀ {xs:List Operand} {t:Nat},Operand.tmp t∈xs->t∈iu xs
 |[],_,h=>by simp at h
 |x::xs,t,h=>by
  rcases BO.1 h with rfl|h
  ·simp[iu]
  ·have u:=rD h;cases x <;> simp[iu,u]
theorem nn (t n:Nat):∀ (j:Nat) (ls:List Leaf) (q:Nat),q∈aw (bF t n j ls)->q=t\/q∈aw ls
 |_,[],_,h=>by simp[bF,aw]at h
 |j,l::ls,q,h=>by
  simp only[bF]at h;rw[aL,BB]at h;rw[aL,BB];rcases h with h|h
  ·cases l with
   |own p u E e y=>simp[lH,aw]at h;exact .inl h
   |_=>exact .inr (.inl h)
  ·exact (nn t n (j+1) ls q h).imp id .inr
theorem lg:∀ (u y:List Leaf),ay (u++y)=ay u++ay y
 |[],_=>rfl
 |l::u,y=>by cases l <;> simp[ay,lg u y]
theorem du (l:Leaf)(ls:List Leaf):ay (l::ls)=ay [l]++ay ls:=lg [l] ls
theorem fC:∀ {ls:List Leaf} {q:Nat},q∈aw ls->q∈ay ls
 |[],_,h=>by simp[aw]at h
 |l::ls,q,h=>by
  rw[aL,BB]at h;rw[du,BB];rcases h with h|h
  ·left;cases l with
   |nal p u ep y E e z=>simp[aw]at h;simpa[ay]using h
   |np p u ep a x off=>simp[aw]at h;simpa[ay]using h
   |_=>simp[aw]at h <;> simp[ay,h]
  ·exact .inr (fC h)
theorem nq (t n:Nat):∀ (j:Nat) (ls:List Leaf) (q:Nat),q∈ay (bF t n j ls)->q=t\/q∈ay ls
 |_,[],_,h=>by simp[bF,ay]at h
 |j,l::ls,q,h=>by
  simp only[bF]at h;rw[du,BB]at h;rw[du,BB];rcases h with h|h
  ·cases l with
   |own p u E e y=>simp[lH,ay]at h;exact .inl h
   |_=>exact .inr (.inl h)
  ·exact (nq t n (j+1) ls q h).imp id .inr
theorem rE {x:Operand}{q:Nat}(h:q∈aw (au st x).2):∃ t,x=.tmp t/\(q=t\/q∈aw (st t).ls):=by
 cases x with
 |tmp t =>
  simp only[au]at h;cases y:Cf t GH with
  |false=>simp[y,aw]at h
  |true=>simp only[y,cond_true]at h;exact⟨t,rfl,nn _ _ _ _ _ h⟩
 |const v =>
  simp only[au]at h;split at h
  ·rename_i l u;unfold ir at u;split at u <;> simp at u <;> subst u <;> simp[aw]at h
  ·simp[aw]at h
 |func f=>simp[au,aw]at h
 |global g=>simp[au,aw]at h
theorem rF {x:Operand}{q:Nat}(h:q∈ay (au st x).2):∃ t,x=.tmp t/\(q=t\/q∈ay (st t).ls):=by
 cases x with
 |tmp t =>
  simp only[au]at h;cases y:Cf t GH with
  |false=>simp[y,ay]at h
  |true=>simp only[y,cond_true]at h;exact⟨t,rfl,nq _ _ _ _ _ h⟩
 |const v =>
  simp only[au]at h;split at h
  ·rename_i l u;unfold ir at u;split at u <;> simp at u <;> subst u <;> simp[ay]at h
  ·simp[ay]at h
 |func f=>simp[au,ay]at h
 |global g=>simp[au,ay]at h
theorem qL {x:Operand}{l:Leaf}(h:one st x=l)(u:l≠.dead):(au st x).2=[l]:=by
 unfold one at h;split at h
 ·rename_i z y;rw[y,h]
 ·exact absurd h.symm u
theorem ji {x:Operand}{q:Nat}(h:q∈aw [one st x]):q∈aw (au st x).2:=by
 by_cases u:one st x=.dead
 ·rw[u]at h;simp[aw]at h
 ·rw[qL rfl u];exact h
theorem tE {x:Operand}{q:Nat}(h:q∈ay [one st x]):q∈ay (au st x).2:=by
 by_cases u:one st x=.dead
 ·rw[u]at h;simp[ay]at h
 ·rw[qL rfl u];exact h
def jq:Leaf->Bool×Leaf
 |.own _ _ _ e u=>(true,.ep 0 0 0 e.cells u.length 0)
 |l=>(false,l)
def bJ (c:bS):Nat×aH×List (Bool×Leaf):=(c.ver,c.sh,c.ls.map jq)
theorem tF {l l':Leaf}(h:jq l'=jq l):l'=l\/∃ (p p':Bool) (z y:Option (Nat×Nat)) (E E':TypeId) (e e':Ty) (xs:List e.den) (u:List e'.den),l=.own p z E e xs/\l'=.own p' y E' e' u/\e'.cells=e.cells/\u.length=xs.length:=by
 cases l <;> cases l' <;> simp only[jq,BS,CU,reduceCtorEq,false_and,and_false,true_and,Leaf.ep.injEq,Bool.true_eq_false]at h <;>
  first
  |exact .inr ⟨_,_,_,_,_,_,_,_,_,_,rfl,rfl,h.1,h.2.1⟩
  |exact .inr ⟨_,_,_,_,_,_,_,_,_,_,rfl,rfl,h.1,h.2⟩
  |exact .inl rfl
  |exact .inl (by rw[h])
  |exact .inl h
  |(obtain⟨rfl,rfl,rfl,rfl,rfl,rfl⟩:=h;exact .inl rfl)
theorem qb (t n:Nat):∀ (j:Nat) (ls u:List Leaf),u.map jq=ls.map jq->bF t n j u=bF t n j ls
 |_,[],[],_=>rfl
 |_,[],_::_,h=>by simp at h
 |_,_::_,[],h=>by simp at h
 |j,l::ls,J::u,h=>by
  simp only[BY,Cg]at h;simp only[bF,qb t n (j+1) ls u h.2];rcases tF h.1 with e|⟨p,O,X,y,E,M,e,Z,Y,I,H,z,_,_⟩
  ·rw[e]
  ·rw[H,z];rfl
theorem xV {x:Operand}(h:∀ t,x=.tmp t->bJ (st' t)=bJ (st t)):au st' x=au st x:=by
 cases x with
 |tmp t =>
  have:=h t rfl;simp only[bJ,BS]at this;simp only[au,this.1,this.2.1,qb _ _ _ _ _ this.2.2]
 |_=>rfl
theorem zE {x:Operand}(h:∀ t,x=.tmp t->bJ (st' t)=bJ (st t)):one st' x=one st x:=by
 unfold one;rw[xV h]
theorem xW {c u:bS}(h:bJ u=bJ c)(j:Nat):jq (u.ls.getD j .dead)=jq (c.ls.getD j .dead):=by
 simp only[bJ,BS]at h;have:=congrArg (λl=>l[j]?) h.2.2;simp only[Cw]at this;rw[BP,BP];generalize u.ls[j]?=a at this;generalize c.ls[j]?=b at this
 match a,b,this with
 |none,none,_=>rfl
 |some x,some y,h=>exact C6 h
theorem rG (l:Leaf):ln l=(jq l).1:=by cases l <;> rfl
theorem zi {ks:List (Nat×Nat×Nat)}{ep:Nat}(h:∀ q∈EPO::ks.map (·.1),bJ (st' q)=bJ (st q)):bm st' ks ep=bm st ks ep:=by
 unfold bm;have z:=h EPO (BG ..);simp only[bJ,BS]at z;rw[z.1];congr 1;induction ks with
 |nil=>rfl
 |cons k ks H =>
  have y:=h k.1 (by simp);have I:(st' k.1).ver=(st k.1).ver:=by simp only[bJ,BS]at y;exact y.1
  rw[Cb,Cb,H (λq u=>h q (by simp at u ⊢;rcases u with u|u;exact .inl u;exact .inr (.inr u))),rG,rG,xW y,I]
end
section
variable {P:Program} {V:Env} {Γ:List Ctr} {T:TypeId->TI} {st st':St} {o:Oper} {R:Type} {κ:Upd->Option R} {r:R}
theorem tG {d:Nat}(u:o.dst=some d)(h:∀ q∈fj st o,st' q=st q):st' d=st d/\st' (B0+d)=st (B0+d):=by
 refine⟨h d ?_,h (B0+d) ?_⟩ <;> simp[fj,zq,u]
theorem lh {ls:List Leaf}(h:∀ q∈aw ls,st' q=st q):∀ x∈bu st ls,st' x.1=st x.1:=λx u=>h _ (eu u)
theorem qc {u:List (Nat×Nat×Bool)}:∀ (ps:List (Nat×Operand)) (ls:List Leaf),(∀ x∈ps,∀ t,x.2=.tmp t->st' t=st t)->fh st' u ps ls=fh st u ps ls
 |[],_,_=>rfl
 |(i,x)::ps,ls,h=>by
  simp only[fh,dR (h (i,x) (BG ..))];split
  ·rw[qc ps _ (λy z=>h y (BF _ z))]
  ·rfl
theorem oy {e:Ty}:∀ (ps:List (Nat×Operand)) (k:Nat),(∀ x∈ps,(∀ t,x.2=.tmp t->st' t=st t)/\∀ q∈aw (au st x.2).2,st' q=st q)->ew st' e k ps=ew st e k ps
 |[],_,_=>rfl
 |(i,x)::ps,k,h=>by
  have u:=h (i,x) (BG ..);simp only[ew,dR u.1,gQ u.2,oy ps (k+1) (λy z=>h y (BF _ z))]
theorem oz {e:Ty}:∀ (ps:List (Nat×Operand)) (k:Nat) (u:cM (List e.den)),ew st e k ps=some u->∀ z,z∈u.frz\/z∈u.kill->∃ x∈ps,z.1∈aw (au st x.2).2
 |[],_,_,h=>by simp only[ew,BA]at h;subst h;simp
 |(i,x)::ps,k,u,h=>by
  simp only[ew]at h;cases O:BJ i k&&decide ((au st x).1=bg e.isAgg) with
  |false=>simp[O]at h
  |true =>
   simp only[O,cond_true]at h;split at h
   ·rename_i t1 J Z M;simp only[BA]at h;subst h;intro z H;obtain⟨X,p2⟩:=iW Z;have I:(z∈t1.frz\/z∈t1.kill)\/(z∈J.frz\/z∈J.kill):=by
     rcases H with H|H <;> rcases BB.1 H with H|H
     ·exact .inl (.inl H)
     ·exact .inr (.inl H)
     ·exact .inl (.inr H)
     ·exact .inr (.inr H)
    rcases I with H|H
    ·exact⟨(i,x),BG ..,H.elim (X z) (p2 z)⟩
    ·obtain⟨y,Y,h2⟩:=oz ps (k+1) J M z H;exact⟨y,BF _ Y,h2⟩
   ·cases h
theorem nr {x:Option Operand}{n:Int}(h:∀ y,x=some y->∀ t,y=.tmp t->st' t=st t):di st' x n=di st x n:=by
 cases x with
 |none=>rfl
 |some y=>simp only[di,dD (h y rfl)]
theorem vf:∀ (xs:List Operand) (u:Option (List Nat)),(∀ x∈xs,∀ t,x=.tmp t->st' t=st t) ->
  xs.foldl (λ (u:Option (List Nat)) x=>u.bind λl=>match one st' x with|.bp b 0=>some (l++[b])|_=>none) u =
  xs.foldl (λ (u:Option (List Nat)) x=>u.bind λl=>match one st x with|.bp b 0=>some (l++[b])|_=>none) u
 |[],_,_=>rfl
 |x::xs,u,h=>by
  simp only[C7,dD (h x (BG ..))];exact vf xs _ (λy z=>h y (BF _ z))
theorem qd {l:Leaf}(H:st' TMP=st TMP)(y:st' EPO=st EPO)(h:∀ q∈aw [l],st' q=st q):ck st' l=ck st l:=by
 cases l with
 |nal p I ep u E e J =>
  rw[ip]at h;simp only[ck,jB h,H,y];congr 1
  match I,u,h with
  |[(r,j,n)],some (i,M,off),h =>
   have z:=h r (by simp);simp only[z]
  |[(r,j,n)],none,_=>rfl
  |[],_,_=>rfl
  |_::_::_,_,_=>rfl
 |_=>rfl
theorem oA {l l':Leaf}{U:Upd}(h:ck st l=some (U,l')):∃ n,l'=.al TMP 0 n/\∀ q,q≠TMP->∀ z∈ay (ac U st q).ls,z∈ay (st q).ls:=by
 cases l with
 |nal p ks ep a0 E e Z =>
  simp only[ck]at h;cases H:bm st ks ep with
  |false=>simp[H]at h
  |true =>
   rw[H]at h;simp only[cond_true]at h;split at h
   ·rename_i r j n0 i sz off;split at h
    ·rename_i Y E' O M hg;cases X:!BJ r TMP&&!BJ r EPO&&BJ sz O.cells with
     |false=>simp[X]at h
     |true =>
      rw[X]at h;simp only[cond_true]at h;split at h
      ·split at h
       ·rename_i y _ _ _ _ _;simp only[BA,BS]at h;obtain⟨rfl,rfl⟩:=h;refine⟨_,rfl,λq hq z u=>?_⟩;rw[aO]at u;rcases am r q ⟨(st r).ver,(st r).sh,aS (st r).ls j (.own Y (some (i,off)) E' O M)⟩ (ac [(TMP,⟨(st TMP).ver+1,.one,[.own (Y&&O.shy) none _ _ _]⟩),(EPO,bV (st EPO))] st) with ⟨rfl,J⟩|⟨_,J⟩
        ·rw[J]at u;exact refs_set u
        ·rw[J,aO,aI hq]at u;rcases am EPO q (bV (st EPO)) st with ⟨rfl,e1⟩|⟨_,e1⟩ <;> rw[e1]at u <;> exact u
       ·cases h
      ·cases h
    ·cases h
   ·cases h
 |_=>simp[ck]at h
where
 refs_set {I:List Leaf} {j z:Nat} {p:Bool} {hh:Option (Nat×Nat)} {E:TypeId} {e:Ty} {Z:List e.den} (h:z∈ay (aS I j (.own p hh E e Z))):z∈ay I:=by
  unfold aS at h;induction I generalizing j with
  |nil=>simpa using h
  |cons l I ih =>
   cases j with
   |zero =>
    rw[List.set_cons_zero,du,BB]at h;rw[du,BB];rcases h with h|h
    ·simp[ay]at h
    ·exact .inr h
   |succ j =>
    rw[Ct,du,BB]at h;rw[du,BB];exact h.imp id ih
theorem uA {l l':Leaf}{U:Upd}(h:ck st l=some (U,l')):ay (ac U st TMP).ls=[]:=by
 cases l with
 |nal p M ep H E e xs =>
  simp only[ck]at h;cases u:bm st M ep with
  |false=>simp[u]at h
  |true =>
   rw[u]at h;simp only[cond_true]at h;split at h
   ·rename_i r j Y i I off;split at h
    ·rename_i p' X J O Z;cases y:!BJ r TMP&&!BJ r EPO&&BJ I J.cells with
     |false=>simp[y]at h
     |true =>
      rw[y]at h;simp only[cond_true]at h;have z:TMP≠r:=λe=>by subst e;simp at y
      split at h
      ·split at h
       ·simp only[BA,BS]at h;obtain⟨rfl,rfl⟩:=h;rw[aO,aI z,aO,bi];rfl
       ·cases h
      ·cases h
    ·cases h
   ·cases h
 |_=>simp[ck]at h
theorem wt {E:TypeId}{e:Ty}{y:Leaf}(u:∀ q∈aw [y],st' q=st q):fN st' E e y=fN st E e y:=by
 unfold fN;rw[ci u,jf u,gQ u]
theorem wu {E:TypeId}{e:Ty}{y:Leaf}{t:cM (List e.den)}(h:fN st E e y=some t):(∀ z∈t.frz,z.1∈aw [y])/\∀ z∈t.kill,z.1∈aw [y]:=by
 unfold fN at h;cases u:e.flat with
 |true =>
  rw[u]at h;simp only[cond_true,BI]at h;obtain⟨_,_,rfl⟩:=h;exact⟨by simp,by simp⟩
 |false =>
  rw[u]at h;simp only[cond_false]at h;cases H:decide (e.sh=e) with
  |true =>
   rw[H]at h;simp only[cond_true,BI]at h;obtain⟨_,_,rfl⟩:=h;exact⟨λz J=>eu J,by simp⟩
  |false =>
   rw[H]at h;simp only[cond_false,BI]at h;obtain⟨M,I,rfl⟩:=h;exact iW I
theorem li {u:Upd}{d:Nat}{E:TypeId}{e:Ty}{H:Nat}{p:Bool}{xs:List e.den}{ks:List (Nat×Nat)}{y:Leaf}(O:∀ z∈ks,st' z.1=st z.1)(M:∀ q∈aw [y],st' q=st q)(Y:st' d=st d) :
  dS st' (ac u st') u d E e H p xs ks y κ=dS st (ac u st) u d E e H p xs ks y κ:=by
 unfold dS;have J:∀ q,st' q=st q->ac u st' q=ac u st q:=λq h=>bj h u
 rw[wt (st:=ac u st) (st':=ac u st') (λq hq=>J q (M q hq))];split
 ·rename_i t ht;obtain⟨X,p2⟩:=wu ht;have e1:aE (ac u st') t.frz=aE (ac u st) t.frz:=kb (λz I=>J _ (M _ (X z I)));have Z:∀ U:Upd,aM (ac U (ac u st')) (t.kill++ks)=aM (ac U (ac u st)) (t.kill++ks):=λU=>iq (λz I=>bj (J _ ((BB.1 I).elim (λI=>M _ (p2 z I)) (O z))) U)
  simp only[e1,Z,ve Y]
 ·rfl
theorem wv {H:Upd}{d:Nat}{E:TypeId}{e:Ty}{u:Nat}{x y:Leaf}(J:∀ q∈aw [x],st' q=st q)(I:∀ q∈aw [y],st' q=st q)(M:st' d=st d):el st' H d E e u x y κ=el st H d E e u x y κ:=by
 unfold el;cases x with
 |al r j v =>
  have X:st' r=st r:=J r (by simp[aw]);simp only;rw[ci (st:=ac H st) (st':=ac H st') (l:=.al r j v) (λq Y=>bj (J q Y) H)];split
  ·rw[li (λz O=>by simp at O;subst O;exact X) I M]
  ·rfl
 |nil=>exact li (by simp) I M
 |_=>rfl
theorem ww {d:Nat}{E:TypeId}{e:Ty}{H:Nat}{x y:Leaf}(J:st' TMP=st TMP)(I:∀ q∈aw [x],st' q=st q)(X:∀ q∈aw [y],st' q=st q)(O:st' d=st d):it st' d E e H x y κ=it st d E e H x y κ:=by
 unfold it;rw[wv I X O,gY,gY];cases hn:jl x with
 |false=>rfl
 |true =>
  simp only[cond_true];have Z:st' EPO=st EPO:=by
   cases x with
   |nal p ks ep a0 E e xs=>exact I EPO (by rw[ip];exact BG ..)
   |_=>simp[jl]at hn
  rw[qd J Z I];cases hu:ck st x with
  |none=>rfl
  |some u =>
   obtain⟨n,e1,_⟩:=oA (U:=u.1) (l':=u.2) hu;simp only[CF];rw[e1];unfold el;simp only;have e2:∀ q,q=TMP->ac u.1 st' q=ac u.1 st q:=λq M=>by rw[M];exact bj J u.1
   rw[ci (st:=ac u.1 st) (st':=ac u.1 st') (l:=.al TMP 0 n) (λq M=>e2 q (by simpa[aw]using M))];split
   ·rw[li (λz Y=>by simp at Y;subst Y;exact J) X O]
   ·rfl
structure eJ (st st':St) (ls:List Leaf):Prop where
 d1:∀ q∈ay ls,st' q=st q
 d2:∀ r∈ay ls,∀ q∈ay (st r).ls,st' q=st q
 d3:∀ r∈ay ls,∀ r2∈ay (st r).ls,∀ q∈ay (st r2).ls,st' q=st q
theorem kr (p:Bool):∀ (a:Ty) (x:a.den),ay (cL p a x)=[]
 |.int _,_=>rfl
 |.bool,_=>rfl
 |.str,_=>rfl
 |.unit,_=>rfl
 |.hdr,_=>rfl
 |.pair a b,x=>by simp[cL,lg,kr p a,kr p b]
 |.list _ _ _,_=>rfl
theorem rH {l:Leaf}(h:∀ q∈ay [l],st' q=st q):target st' l=target st l:=by
 unfold target;cases l with
 |bp b off =>
  have u:=h b (by simp[ay]);cases off with
  |zero=>simp only[u]
  |succ n=>rfl
 |rp p a x off=>cases off <;> rfl
 |_=>rfl
theorem lj {l:Leaf}{ls:List Leaf}(h:target st l=some ls):∀ q∈ay ls,q∈ay [l]\/∃ r∈ay [l],q∈ay (st r).ls:=by
 unfold target at h;split at h
 ·rename_i b;cases y:decide ((st b).sh=.agg) with
  |false=>simp[y]at h
  |true =>
   simp only[y,cond_true,BA]at h;subst h;intro q u;rcases nq _ _ _ _ _ u with rfl|u
   ·exact .inl (by simp[ay])
   ·exact .inr ⟨b,by simp[ay],u⟩
 ·simp only[BA]at h;subst h;intro q u;rw[kr]at u;simp at u
 ·simp only[BA]at h;subst h;intro q u;simp[ay]at u
 ·cases h
theorem iX {x:aH×List Leaf}{q:Nat}(h:q∈ay [cl x]):q∈ay x.2:=by
 unfold cl at h;split at h
 ·exact h
 ·simp[ay]at h
theorem eJ.target {l:Leaf}{ls:List Leaf}(h:eJ st st' [l])(H:Go.Proofs.YtadlacffdemoiaaGreatEv.target st l=some ls):(∀ q∈ay ls,st' q=st q)/\∀ r∈ay ls,∀ q∈ay (st r).ls,st' q=st q:=by
 constructor
 ·intro q y;rcases lj H q y with u|⟨r,u,z⟩
  ·exact h.d1 q u
  ·exact h.d2 r u q z
 ·intro r I q y;rcases lj H r I with u|⟨J,u,z⟩
  ·exact h.d2 r u q y
  ·exact h.d3 J u r z q y
theorem eJ.one {x:aH×List Leaf}(h:eJ st st' x.2):eJ st st' [cl x] :=
 ⟨λq y=>h.d1 q (iX y),λr u=>h.d2 r (iX u),λr u=>h.d3 r (iX u)⟩
def nu {α:Type}(st st':St)(g:Got α):Prop:=(∀ z∈g.frz,st' z.1=st z.1)/\(∀ z∈g.kill,st' z.1=st z.1)
theorem nv {c:Bool×Ty}{l:Leaf}(Y:eJ st st' [l]):fg st' c l=fg st c l/\∀ g,fg st c l=some g->nu st st' g:=by
 unfold fg;rw[rH Y.d1];cases O:target st l with
 |none=>cases c.1 <;> exact⟨rfl,by simp⟩
 |some X =>
  have y:=Y.target O;cases hc:c.1 with
  |false =>
   have u:∀ q∈aw X,st' q=st q:=λq J=>y.1 q (fC J)
   simp only[cond_false,eB u,jf u,true_and];intro g z;simp only[BI]at z;obtain⟨_,_,rfl⟩:=z;exact⟨lh u,by simp[Got.ofRd]⟩
  |true =>
   simp only[cond_true]
   match X,y,O with
   |[],_,_=>exact⟨rfl,by simp⟩
   |_::_::_,_,_=>exact⟨rfl,by simp⟩
   |[Z],y,O =>
    simp only[rH y.1];cases I:target st Z with
    |none=>exact⟨rfl,by simp⟩
    |some H =>
     have u:∀ q∈aw H,st' q=st q:=by
      intro q J;rcases lj I q (fC J) with M|⟨r,M,h5⟩
      ·exact y.1 q M
      ·exact y.2 r M q h5
     simp only[eB u,jf u,true_and];intro g z;simp only[BI]at z;obtain⟨_,_,rfl⟩:=z;exact⟨lh u,by simp[Got.ofRd]⟩
theorem mr:∀ (cs:List (Bool×Ty)) (ls:List Leaf),(∀ l∈ls,eJ st st' [l])->cz st' cs ls=cz st cs ls/\∀ g,cz st cs ls=some g->nu st st' g
 |[],[],_=>⟨rfl,λg u=>by simp only[cz,BA]at u;subst u;exact⟨by simp,by simp⟩⟩
 |[],_::_,_=>⟨rfl,λg u=>by simp[cz]at u⟩
 |_::_,[],_=>⟨rfl,λg u=>by simp[cz]at u⟩
 |c::cs,l::ls,h=>by
  obtain⟨J,h2⟩:=nv (c:=c) (h l (BG ..));obtain⟨Z,h4⟩:=mr cs ls (λy M=>h y (BF _ M));simp only[cz,J,Z,true_and];intro g u;split at u
  ·rename_i Y H;split at u
   ·rename_i O I;simp only[BA]at u;subst u;exact⟨λz X=>(BB.1 X).elim ((h2 Y H).1 z) ((h4 O I).1 z),by simp⟩
   ·cases u
  ·cases u
theorem oC {c:Nat}{q:Nat}:∀ {ls:List Leaf} {c:Nat},q∈aw (aS ls c .nil)->q∈aw ls
 |[],_,h=>h
 |l::ls,0,h=>by
  rw[show aS (l::ls) 0 .nil=.nil::ls from rfl,aL,BB]at h;rw[aL,BB];rcases h with h|h
  ·simp[aw]at h
  ·exact .inr h
 |l::ls,c+1,h=>by
  rw[show aS (l::ls) (c+1) .nil=l::aS ls c .nil from rfl,aL,BB]at h;rw[aL,BB];exact h.imp id (oC (c:=c))
theorem pd {caps:List Nat}{f:FuncId}(H:eJ st st' [.clo f caps]):∀ l∈caps.map (λb=>Leaf.bp b 0),eJ st st' [l]:=by
 intro l M;obtain⟨b,I,rfl⟩:=BL.1 M;have u:b∈ay [Leaf.clo f caps]:=by simp[ay,I]
 have y:∀ r∈ay [Leaf.bp b 0],r=b:=λr z=>by simpa[ay]using z
 exact⟨λq J=>H.d1 q (by rw[y q J];exact u),λr z=>H.d2 r (by rw[y r z];exact u),λr z=>H.d3 r (by rw[y r z];exact u)⟩
theorem ny {caps:List (Bool×Bool×(a:Ty)×a.den)}:∀ l∈caps.map eK,eJ st st' [l]:=by
 intro l z;obtain⟨c,H,rfl⟩:=BL.1 z;have:∀ q,q∉ay [eK c]:=by
  intro q u;unfold eK at u;cases y:c.2.1 <;> rw[y]at u <;> simp[ay]at u
 exact⟨λq u=>absurd u (this q),λq u=>absurd u (this q),λq u=>absurd u (this q)⟩
theorem ek {pk:PK}{x:aH×List Leaf}(h:eJ st st' x.2):be st' pk x=be st pk x/\∀ g,be st pk x=some g->nu st st' g:=by
 have Y:∀ q∈aw x.2,st' q=st q:=λq O=>h.d1 q (fC O)
 have h1:=h.one;have H:∀ {b:Bool} {a:Ty} {g:Got a.den},(bif b then (cg st a x.2).map (λt=>(⟨t.p,t.val,t.frz,t.kill,[],[]⟩:Got a.den)) else none)=some g->nu st st' g:=by
  intro b a g u;cases b with
  |false=>simp at u
  |true =>
   simp only[cond_true,BI]at u;obtain⟨t,ht,rfl⟩:=u;obtain⟨p1,p2⟩:=iW ht;exact⟨λz I=>Y _ (p1 z I),λz I=>Y _ (p2 z I)⟩
 cases pk with
 |rd a =>
  simp only[be,eB Y,jf Y,true_and];intro g u;cases M:decide (x.1=bg a.isAgg) with
  |false=>simp[M]at u
  |true =>
   simp only[M,cond_true,BI]at u;obtain⟨y,_,rfl⟩:=u;exact⟨lh Y,by simp[Got.ofRd]⟩
 |own a =>
  simp only[be,gQ Y,true_and];exact λg u=>H u
 |io a =>
  simp only[be,gQ Y,true_and];exact λg u=>H u
 |rref a=>exact nv (c:=(false,a)) h1
 |rref2 a=>exact nv (c:=(true,a)) h1
 |iop a =>
  simp only[be];split
  ·rename_i b Z;rw[Z]at h1;have M:=h1.d1 b (by simp[ay]);have h3:∀ q∈aw (bF b (st b).ver 0 (st b).ls),st' q=st q:=by
    intro q O;rcases nn _ _ _ _ _ O with rfl|O
    ·exact M
    ·exact h1.d2 b (by simp[ay]) q (fC O)
   simp only[M,gQ h3,true_and];intro g u;cases a0:decide ((st b).sh=.agg) with
   |false=>simp[a0]at u
   |true =>
    simp only[a0,cond_true,BI]at u;obtain⟨t,ht,rfl⟩:=u;obtain⟨p1,p2⟩:=iW ht;exact⟨λz I=>h3 _ (p1 z I),λz I=>h3 _ (p2 z I)⟩
  ·exact⟨rfl,by simp⟩
 |fn As B =>
  simp only[be,true_and];intro g u;split at u
  ·split at u
   ·simp only[BA]at u;subst u;exact⟨by simp,by simp⟩
   ·cases u
  ·cases u
 |clo f cs =>
  simp only[be];split
  ·rename_i f' caps Z;rw[Z]at h1;have:=mr cs _ (pd h1);rw[this.1];refine⟨rfl,λg u=>?_⟩;cases M:BJ f' f with
   |false=>simp[M]at u
   |true=>rw[M]at u;exact this.2 g u
  ·rename_i f' caps Z;have:=mr (st:=st) (st':=st') cs _ (ny (caps:=caps));rw[this.1];refine⟨rfl,λg u=>?_⟩;cases M:BJ f' f with
   |false=>simp[M]at u
   |true=>rw[M]at u;exact this.2 g u
  ·exact⟨rfl,by simp⟩
 |hol a c off =>
  simp only[be];have X:∀ q∈aw (aS x.2 c .nil),st' q=st q:=λq O=>Y q (oC (c:=c) O)
  rw[gQ X];cases M:decide (x.1=bg a.isAgg) with
  |false=>exact⟨rfl,by simp⟩
  |true =>
   simp only[cond_true];split
   ·rename_i r j v J;have a2:x.2[c]?=some (.al r j v):=by
     rw[BP]at J;cases O:x.2[c]? with
     |none=>rw[O]at J;simp at J
     |some l0=>rw[O]at J;simp at J;rw[J]
    have hr:=λq O=>Y q (qI a2 q O)
    rw[ci hr];refine⟨rfl,λg u=>?_⟩;split at u
    ·rename_i p i o' E e xs _;cases a1:BJ o' off with
     |false=>simp[a1]at u
     |true =>
      rw[a1]at u;simp only[cond_true]at u;split at u
      ·rename_i t ht;split at u
       ·simp only[BA]at u;subst u;obtain⟨p1,p2⟩:=iW ht;refine⟨λz I=>X _ (p1 z I),λz I=>?_⟩;rcases BO.1 I with rfl|I
        ·exact hr r (by simp[aw])
        ·exact X _ (p2 z I)
       ·cases u
      ·cases u
    ·cases u
   ·exact⟨rfl,by simp⟩
theorem kt {ga ga':(pk:PK)->aH×List Leaf->Option (Got pk.den)}:∀ (ps:List PK) (xs:List (aH×List Leaf)),
  (∀ x∈xs,∀ pk,ga' pk x=ga pk x/\∀ g,ga pk x=some g->nu st st' g) ->
  a7 ga' ps xs=a7 ga ps xs/\∀ g,a7 ga ps xs=some g->nu st st' g
 |[],[],_=>⟨rfl,λg u=>by simp only[a7,BA]at u;subst u;exact⟨by simp,by simp⟩⟩
 |[],_::_,_=>⟨rfl,λg u=>by simp[a7]at u⟩
 |_::_,[],_=>⟨rfl,λg u=>by simp[a7]at u⟩
 |p::ps,x::xs,h=>by
  obtain⟨Z,X⟩:=h x (BG ..) p;obtain⟨h3,Y⟩:=kt ps xs (λy hy=>h y (BF _ hy));simp only[a7,Z,h3,true_and];intro g u;split at u
  ·rename_i O H;split at u
   ·rename_i M I;simp only[BA]at u;subst u;exact⟨λz J=>(BB.1 J).elim ((X O H).1 z) ((Y M I).1 z),λz J=>(BB.1 J).elim ((X O H).2 z) ((Y M I).2 z)⟩
   ·cases u
  ·cases u
theorem tH {H:List Ty}{B:Ty}{f:FuncId}{ls:List Leaf}(h:∀ l∈ls,eJ st st' [l]):ku Γ st' H B f ls=ku Γ st H B f ls/\∀ g,ku Γ st H B f ls=some g->nu st st' g:=by
 have u:=λ (q:List PK)=>kt (st:=st) (st':=st') (ga:=be st) (ga':=be st') q (ls.map λl=>(aH.one,[l])) (λy M X=>by
  obtain⟨l,O,rfl⟩:=BL.1 M;exact ek (h l O))
 unfold ku;split
 ·rename_i c Y;unfold rX;simp only[uD,(u _).1,true_and];intro g z;split at z
  ·cases J:(c.ps.drop H.length).all PK.reads&&B.flat&&c.fresh with
   |false=>simp[J]at z
   |true =>
    simp only[J,cond_true]at z;split at z
    ·rename_i g0 I;simp only[BA]at z;subst z;exact⟨((u _).2 g0 I).1,by simp⟩
    ·cases z
  ·cases z
 ·exact⟨rfl,by simp⟩
theorem wz {pk:PK}{x:aH×List Leaf}(h:eJ st st' x.2):ca Γ st' pk x=ca Γ st pk x/\∀ g,ca Γ st pk x=some g->nu st st' g:=by
 cases pk with
 |fn O B =>
  simp only[ca];split
  ·rename_i z y;have H:(∃ u,cl x=.clo z.1 u/\z.2=u.map λb=>Leaf.bp b 0)\/∃ u,cl x=.clr z.1 u/\z.2=u.map eK:=by
    generalize cl x=l at y;cases l <;> simp only[vp,BA,reduceCtorEq]at y
    ·subst y;exact .inl ⟨_,rfl,rfl⟩
    ·subst y;exact .inr ⟨_,rfl,rfl⟩
   have J:=h.one;rcases H with ⟨u,H,I⟩|⟨u,H,I⟩
   ·rw[H]at J;rw[I];exact tH (pd J)
   ·rw[I];exact tH ny
  ·exact ek h
 |rd a=>exact ek (pk:=.rd a) h
 |own a=>exact ek (pk:=.own a) h
 |io a=>exact ek (pk:=.io a) h
 |rref a=>exact ek (pk:=.rref a) h
 |rref2 a=>exact ek (pk:=.rref2 a) h
 |iop a=>exact ek (pk:=.iop a) h
 |clo f M=>exact ek (pk:=.clo f M) h
 |hol a c off=>exact ek (pk:=.hol a c off) h
theorem tI:∀ (u ls:List Leaf),st' EPO=st EPO->(∀ q∈ay u,st' q=st q)->b7 st' u ls=b7 st u ls
 |[],_,_,_=>by simp[b7]
 |x::u,[],_,_=>by cases x <;> simp[b7]
 |x::u,l::ls,y,h=>by
  have z:=tI u ls y (λq I=>h q (by rw[du];exact BE _ I));cases x with
  |al r j v =>
   have H:st' r=st r:=h r (by simp[ay]);simp only[b7,z,bj H,bj y]
  |_=>simp only[b7,z]
theorem qe {p:Bool}:∀ (ps:List PK) (xs:List (aH×List Leaf)) (y:ah ps),st' EPO=st EPO->(∀ x∈xs,∀ q∈ay x.2,st' q=st q)->aG st' p ps xs y=aG st p ps xs y
 |[],_,_,_,_=>by simp[aG]
 |u::ps,[],y,_,h=>by cases u <;> simp[aG]
 |u::ps,x::xs,y,M,h=>by
  have H:=λ (y:ah ps)=>qe (p:=p) ps xs y M (λz Y=>h z (BF _ Y))
  have O:=h x (BG ..);cases u with
  |io a =>
   simp only[aG,H];rw[tI x.2 _ (bj M _) (λq I=>bj (O q I) _)]
  |iop a =>
   simp only[aG,H];have X:∀ q∈ay [cl x],st' q=st q:=λq I=>O q (iX I)
   congr 1;split
   ·rename_i b v J;rw[J]at X;rw[bj (X b (by simp[ay]))]
   ·rfl
  |_=>exact H _
theorem qf {n q:Nat}:∀ {ls:List Leaf} {k:Nat},q∈ay (aS ls k (.al TMP 0 n))->q∈ay ls\/q=TMP
 |[],_,h=>.inl h
 |l::ls,0,h=>by
  rw[show aS (l::ls) 0 (.al TMP 0 n)=.al TMP 0 n::ls from rfl,du,BB]at h;rw[du,BB];rcases h with h|h
  ·simp[ay]at h;exact .inr h
  ·exact .inl (.inr h)
 |l::ls,k+1,h=>by
  rw[show aS (l::ls) (k+1) (.al TMP 0 n)=l::aS ls k (.al TMP 0 n) from rfl,du,BB]at h;rw[du,BB];rcases h with h|h
  ·exact .inl (.inl h)
  ·exact (qf h).imp .inr id
theorem pe {U:Upd}{O ls:List Leaf}(hT:st' TMP=st TMP)(u:∀ q,q≠TMP->∀ z∈ay (ac U st q).ls,z∈ay (st q).ls)(Y:ay (ac U st TMP).ls=[])(hx:eJ st st' O)(H:∀ q∈ay ls,q∈ay O\/q=TMP) :
  eJ (ac U st) (ac U st') ls:=by
 have y:∀ r z,z∈ay (ac U st r).ls->r≠TMP:=λr z hz e=>by subst e;rw[Y]at hz;simp at hz
 refine⟨λq I=>?_,λr Z q I=>?_,λr Z J X q I=>?_⟩
 ·rcases H q I with h|h
  ·exact bj (hx.d1 q h) U
  ·subst h;exact bj hT U
 ·have M:=y r q I;exact bj (hx.d2 r ((H r Z).resolve_right M) q (u r M q I)) U
 ·have M:=y r J X;have h2:=y J q I;exact bj (hx.d3 r ((H r Z).resolve_right M) J (u r M J X) q (u J h2 q I)) U
theorem oD (Z:st' TMP=st TMP)(hE:st' EPO=st EPO):∀ (ps:List PK) (xs:List (aH×List Leaf)),(∀ x∈xs,eJ st st' x.2)->cX st' ps xs=cX st ps xs /\
  ∀ (U:Upd) (O:List (aH×List Leaf)) (b:Option (Bool×Nat×Nat)),cX st ps xs=some (U,O,b)->(∀ y∈O,eJ (ac U st) (ac U st') y.2)/\(∀ f r j,b=some (f,r,j)->st' r=st r)/\∀ ls,eJ st st' ls->eJ (ac U st) (ac U st') ls
 |[],xs,h=>⟨rfl,λU O b z=>by
   simp only[cX,BA,BS]at z;obtain⟨rfl,rfl,rfl⟩:=z;exact⟨h,(λ_ _ _ h=>by cases h),λ_ h=>h⟩⟩
 |_::_,[],h=>⟨rfl,λU O b z=>by
   simp only[cX,BA,BS]at z;obtain⟨rfl,rfl,rfl⟩:=z;exact⟨h,(λ_ _ _ h=>by cases h),λ_ h=>h⟩⟩
 |p::ps,x::xs,h=>by
  have hx:=h x (BG ..);obtain⟨i1,i2⟩:=oD Z hE ps xs (λy M=>h y (BF _ M));simp only[cX];cases hk:p.nest x.2 with
  |none =>
   simp only[i1,true_and];intro U O b z;simp only[BI]at z;obtain⟨u,X,z⟩:=z;simp only[BS]at z;obtain⟨rfl,rfl,rfl⟩:=z;obtain⟨j1,j2,j3⟩:=i2 u.1 u.2.1 u.2.2 X;refine⟨λy M=>?_,j2,j3⟩;rcases BO.1 M with rfl|M
   ·exact j3 _ hx
   ·exact j1 y M
  |some k =>
   obtain⟨l,a0,Y⟩:=rx hk;have hg:x.2.getD k .dead=l:=by rw[BP,a0];rfl
   have a1:∀ q∈aw [l],st' q=st q:=λq J=>hx.d1 q (fC (qI a0 q J))
   simp only[hg,qd Z hE a1,true_and];intro U O b z;simp only[BI]at z;obtain⟨u,X,z⟩:=z;simp only[BS]at z;obtain⟨rfl,rfl,rfl⟩:=z;obtain⟨n,e1,H⟩:=oA (U:=u.1) (l':=u.2) X;have I:=uA (U:=u.1) (l':=u.2) X;refine⟨λy M=>?_,λf r j hb=>?_,λls a2=>pe Z H I a2 (λq J=>.inl J)⟩
   ·rcases BO.1 M with rfl|M
    ·refine pe Z H I hx λq J=>?_
     have J:q∈ay (aS x.2 k u.2):=J;rw[e1]at J;exact qf J
    ·exact pe Z H I (h y (BF _ M)) (λq J=>.inl J)
   ·simp only[BA,BS]at hb;have hr:r=(jZ l).1:=by rw[hb.2]
    rw[hr];refine a1 _ ?_;cases l with
    |nal p ks ep a3 E e xs =>
     cases ks with
     |nil =>
      exfalso;simp only[ck]at X;cases hv:bm st [] ep <;> simp[hv]at X
     |cons k ks=>rw[ip];simp[jZ]
    |_=>simp[jl]at Y
theorem zj {b:Option (Bool×Nat×Nat)}{U:Upd}(z:st' TMP=st TMP)(u:st' EPO=st EPO)(y:∀ f r j,b=some (f,r,j)->st' r=st r):jN st' b U κ=jN st b U κ:=by
 unfold jN;split
 ·rename_i r j;rw[bj (y true r j rfl),bj z,bj u]
 ·rfl
theorem tJ {d:Nat}{f:FuncId}{xs:List (aH×List Leaf)}(hT:st' TMP=st TMP)(X:st' EPO=st EPO)(hx:∀ x∈xs,eJ st st' x.2)(hd:st' d=st d)(hB:st' (B0+d)=st (B0+d)):jm Γ st' d f xs κ=jm Γ st d f xs κ:=by
 unfold jm;split
 ·rename_i c hc;obtain⟨n1,n2⟩:=oD hT X c.ps xs hx;rw[gB,gB,n1];cases hn:cX st c.ps xs with
  |none=>rfl
  |some u =>
   obtain⟨H,M,b⟩:=u;obtain⟨m1,m2,_⟩:=n2 H M b hn;simp only[CF];have hg:=kt (st:=ac H st) (st':=ac H st') (ga:=ca Γ (ac H st)) (ga':=ca Γ (ac H st')) c.ps M (λx I pk=>wz (m1 x I));simp only[oI,hg.1];split
   ·rename_i g a0;obtain⟨h1,h2⟩:=hg.2 g a0;have J:gG st' d c.rs=gG st d c.rs:=by
     unfold gG;split
     ·rw[hB]
     ·rfl
    have hL:∀ q,ac H st' q=ac H st q->∀ U,ac (U++H) st' q=ac (U++H) st q:=λq h U=>by rw[bz,bz];exact bj h U
    have Y:(bif c.fresh then [] else aE (ac H st') g.frz)=(bif c.fresh then [] else aE (ac H st) g.frz):=by rw[kb h1]
    have hk:∀ (U:Upd),aM (ac U (ac H st')) g.kill=aM (ac U (ac H st)) g.kill:=λU=>iq (λz hz=>bj (h2 z hz) U)
    have ho:∀ (U:Upd) (p:Bool) (y:ah c.ps),aG (ac (U++H) st') p c.ps M y=aG (ac (U++H) st) p c.ps M y:=λU p y =>
     qe c.ps M y (hL _ (bj X H) U) (λx I q hq=>hL _ ((m1 x I).d1 q hq) U)
    have O:∀ (U:Upd),(g.frz.map λk=>(k.1,k.2,(ac (U++H) st' k.1).ver))=g.frz.map λk=>(k.1,k.2,(ac (U++H) st k.1).ver):=λU=>Cn λz hz=>by rw[hL _ (h1 z hz) U]
    have Z:∀ U,ac U st' d=ac U st d:=λU=>bj hd U
    have a2:∀ U,ac U st' (B0+d)=ac U st (B0+d):=λU=>bj hB U
    have a1:∀ U,ac U st' EPO=ac U st EPO:=λU=>bj X U
    simp only[J,Y,hk,ho,Z,a2,a1,<- B7,O,zj hT X m2]
   ·rfl
 ·rfl
theorem rI:∀ (u:List Ty) (xs:List (aH×List Leaf)),(∀ x∈xs,∀ q∈aw x.2,st' q=st q)->iJ st' u xs=iJ st u xs
 |[],[],_=>rfl
 |[],_::_,_=>rfl
 |_::_,[],_=>rfl
 |a::u,x::xs,h=>by
  simp only[iJ,eB (h x (BG ..)),rI u xs (λy z=>h y (BF _ z))]
theorem wA {r j i off n:Nat}{p:Bool}{E:TypeId}{e:Ty}{xs:List e.den}{h:Option (Nat×Nat)}{ls:List Leaf}(O:st' r=st r)(I:st' EPO=st EPO)(H:∀ q∈aw ls,st' q=st q):gH st' r j i off n p E e xs h ls κ=gH st r j i off n p E e xs h ls κ:=by
 unfold gH;congr 1;funext u;rw[pb e 0 u ls H];split
 ·rename_i t Z;obtain⟨J,X⟩:=pc e 0 u ls t Z;have Y:aE st' t.frz=aE st t.frz:=kb (λz y=>H _ (J z y));have M:∀ U:Upd,aM (ac U st') t.kill=aM (ac U st) t.kill:=λU=>iq (λz y=>bj (H _ (X z y)) U)
  simp only[Y,M,O,bj I]
 ·rfl
end
section
variable {P:Program} {V:Env} {Γ:List Ctr} {T:TypeId->TI} {st st':St} {o:Oper} {R:Type} {κ:Upd->Option R} {r:R}
theorem dv {z:List Nat}(h:∀ q∈z++z.flatMap (λt=>aw (st t).ls),st' q=st q){x:Operand}(H:∀ t,x=.tmp t->t∈z):(∀ t,x=.tmp t->st' t=st t)/\∀ q∈aw (au st x).2,st' q=st q:=by
 refine⟨λt y=>h t (BD _ (H t y)),λq u=>?_⟩;obtain⟨t,y,u⟩:=rE u;rcases u with rfl|u
 ·exact h q (BD _ (H q y))
 ·exact h q (BE _ (BT.2 ⟨t,H t y,u⟩))
theorem nz {z:List Nat}(h:∀ q∈z++z.flatMap (λt=>ay (st t).ls),st' q=st q){x:Operand}(H:∀ t,x=.tmp t->t∈z):(∀ t,x=.tmp t->st' t=st t)/\∀ q∈ay (au st x).2,st' q=st q:=by
 refine⟨λt y=>h t (BD _ (H t y)),λq u=>?_⟩;obtain⟨t,y,u⟩:=rF u;rcases u with rfl|u
 ·exact h q (BD _ (H q y))
 ·exact h q (BE _ (BT.2 ⟨t,H t y,u⟩))
theorem qg {y:List Nat}(h:∀ q∈kw st y,st' q=st q){x:Operand}(hx:∀ t,x=.tmp t->t∈y):eJ st st' (au st x).2:=by
 have M:∀ q,q∈y->st' q=st q:=λq u=>h q (by simp[kw];exact .inl u)
 have Y:∀ q,q∈y.flatMap (λt=>ay (st t).ls)->st' q=st q:=λq u=>h q (by
  unfold kw;exact BD _ (BD _ (BE _ u)))
 have O:∀ q,q∈(y.flatMap (λt=>ay (st t).ls)).flatMap (λt=>ay (st t).ls)->st' q=st q:=λq u=>h q (by
  unfold kw;exact BD _ (BE _ u))
 have hc:∀ q,q∈((y.flatMap (λt=>ay (st t).ls)).flatMap (λt=>ay (st t).ls)).flatMap (λt=>ay (st t).ls)->st' q=st q:=λq u=>h q (by
  unfold kw;exact BE _ u)
 have Z:∀ r∈ay (au st x).2,r∈y\/r∈y.flatMap (λt=>ay (st t).ls):=by
  intro r H;obtain⟨t,ht,u⟩:=rF H;rcases u with rfl|u
  ·exact .inl (hx r ht)
  ·exact .inr (BT.2 ⟨t,hx t ht,u⟩)
 have X:∀ r∈ay (au st x).2,∀ q∈ay (st r).ls,q∈y.flatMap (λt=>ay (st t).ls)\/q∈(y.flatMap (λt=>ay (st t).ls)).flatMap (λt=>ay (st t).ls):=by
  intro r H q u;rcases Z r H with z|z
  ·exact .inl (BT.2 ⟨r,z,u⟩)
  ·exact .inr (BT.2 ⟨r,z,u⟩)
 refine⟨λq u=>(Z q u).elim (M q) (Y q),λr H q u=>(X r H q u).elim (Y q) (O q),λr H I J q u=>?_⟩;rcases X r H I J with z|z
 ·exact O q (BT.2 ⟨I,z,u⟩)
 ·exact hc q (BT.2 ⟨I,z,u⟩)
theorem bd {xs:Array Operand}{x:Operand}(h:x∈xs):∀ t,x=.tmp t->t∈iu xs.toList:=λt e=>rD (by rw[<- e];simpa using h)
theorem op_fr (h:∀ q∈fj st o,st' q=st q)(H:∀ x,o.op≠.move x)(z:∀ t x i,o.op≠.indexAddr t x i):∀ q∈cm st o.op,st' q=st q:=λq y=>h q (by
 unfold fj;refine BD _ ?_;cases u:o.op with
 |move x=>exact absurd u (H x)
 |indexAddr t x i=>exact absurd u (z t x i)
 |_=>rw[u]at y;exact y)
theorem Ax {α β:Type}{xs:List α}{n:Int}{K:Option β}:((idx xs n).bind λ_=>K)=if 0<=n/\n<xs.length then K else none:=by
 unfold idx;by_cases u:n<0
 ·rw[if_pos u,if_neg (by omega)];rfl
 ·rw[if_neg u];by_cases y:n.toNat<xs.length
  ·rw[BR y,if_pos (by omega)];rfl
  ·rw[Ch (by omega),if_neg (by omega)];rfl
theorem Bp (h:∀ q∈fj st o,st' q=st q)(hh:∀ q∈eR st o.op,bJ (st' q)=bJ (st q)):act Γ T o st' κ=act Γ T o st κ:=by
 have M:=op_fr h;have a0:∀ (U:Upd) (d:Nat) (sh:aH) (ls:List Leaf),o.dst=some d->cj st' U d sh ls=cj st U d sh ls:=λU d sh ls hd=>ve (tG hd h).1
 have hB:∀ d,o.dst=some d->st' (B0+d)=st (B0+d):=λd hd=>(tG hd h).2
 have hw:∀ (sh:aH) (ls:List Leaf),wrU o st' κ sh ls=wrU o st κ sh ls:=by
  intro sh ls;unfold wrU;split
  ·rename_i d hd;rw[a0 _ _ _ _ hd]
  ·rfl
 cases I:o.op with
 |move x =>
  simp only[I,eR]at hh;have e:au st' x=au st x:=xV λt Y=>hh t (bd (by simp[Op.operands]) t Y)
  simp only[act,I,e,hw]
 |assign x =>
  have H:=M (by simp[I]) (by simp[I]);simp only[I,cm]at H;have J:=dv H (x:=x) (bd (by simp[Op.operands]));have e:au st' x=au st x:=dR J.1;simp only[act,I,e,qK J.2,pa J.2,tD J.2];split
  ·rename_i d hd;rw[a0 _ _ _ _ hd]
  ·rfl
 |pick c x y =>
  have H:=M (by simp[I]) (by simp[I]);simp only[I,cm]at H;have e1:one st' c=one st c:=dD λt Y=>H t (bd (by simp[Op.operands]) t Y)
  have e2:au st' x=au st x:=dR λt Y=>H t (bd (by simp[Op.operands]) t Y)
  have e3:au st' y=au st y:=dR λt Y=>H t (bd (by simp[Op.operands]) t Y)
  simp only[act,I,e1,e2,e3,hw]
 |alloc t =>
  simp only[act,I];split
  ·rename_i d hd;rw[a0 _ _ _ _ hd,hB d hd]
  ·rfl
 |box t x =>
  have H:=M (by simp[I]) (by simp[I]);simp only[I,cm]at H;have J:=dv H (x:=x) (bd (by simp[Op.operands]));have e:au st' x=au st x:=dR J.1;have b0:sj st' x=sj st x:=by cases x <;> first|rfl|(simp only[sj];rw[J.1 _ rfl])
  simp only[act,I,e,qK J.2,pa J.2,tD J.2,b0];split
  ·rename_i d hd;simp only[a0 _ _ _ _ hd,hB d hd,bj (hB d hd)]
  ·rfl
 |build t a2 =>
  have H:=M (by simp[I]) (by simp[I]);simp only[I,cm]at H;have hb:∀ a6 ls,fh st' a6 a2.toList ls=fh st a6 a2.toList ls:=λa6 ls=>qc _ _ (λx J t Y=>H t (bd (by simp only[Op.operands,Cz,BL];exact⟨x,J,rfl⟩) t Y))
  simp only[act,I,hw,hb]
 |buildSlice t n a2 =>
  have H:=M (by simp[I]) (by simp[I]);simp only[I,cm]at H;have J:∀ x∈a2.toList,(∀ t,x.2=.tmp t->st' t=st t)/\∀ q∈aw (au st x.2).2,st' q=st q:=λx J =>
   dv H (bd (by simp only[Op.operands,Cz,BL];exact⟨x,J,rfl⟩))
  simp only[act,I];split
  ·rw[oy _ _ J];split
   ·rename_i u bb;have c3:=oz _ _ _ bb;have b5:∀ z,z∈u.frz\/z∈u.kill->st' z.1=st z.1:=λz hz=>by
     obtain⟨x,c2,c1⟩:=c3 z hz;exact (J x c2).2 _ c1
    have e1:aE st' u.frz=aE st u.frz:=kb λz hz=>b5 z (.inl hz)
    have e2:∀ U:Upd,aM (ac U st') u.kill=aM (ac U st) u.kill:=λU=>iq (λz hz=>bj (b5 z (.inr hz)) U)
    simp only[e1,e2];congr 1;split
    ·rename_i d hd;rw[a0 _ _ _ _ hd]
    ·rfl
   ·rfl
  ·rfl
 |load t x =>
  have H:=M (by simp[I]) (by simp[I]);simp only[I,cm]at H;have J:=nz H (x:=x) (bd (by simp[Op.operands]));have e:one st' x=one st x:=dD J.1;have X:∀ q∈ay [one st x],st' q=st q:=λq O=>J.2 q (tE O)
  simp only[act,I,e,hw];congr 1;split
  ·rfl
  ·rename_i b off Z;rw[Z]at X;rw[X b (by simp[ay])]
  ·rfl
  ·rename_i p ks ep a y off Z;rw[Z]at X;rw[jB (λq O=>X q (by simpa[ay]using O))]
  ·rename_i r j v i sz off Z;rw[Z]at X;rw[ci (l:=.al r j v) (λq O=>X q (by simp[aw]at O;simp[ay,O])),X EPO (by simp[ay])]
  ·rfl
 |store t x y =>
  have H:=M (by simp[I]) (by simp[I]);simp only[I,cm]at H;have J:=nz H (x:=x) (bd (by simp[Op.operands]));have hy:=nz H (x:=y) (bd (by simp[Op.operands]));have e:one st' x=one st x:=dD J.1;have e2:au st' y=au st y:=dR hy.1;have X:∀ q∈ay [one st x],st' q=st q:=λq O=>J.2 q (tE O)
  have a9:∀ q∈aw (au st y).2,st' q=st q:=λq O=>hy.2 q (fC O)
  simp only[act,I,e,e2,qK a9,pa a9,tD a9];split
  ·rfl
  ·congr 1;split
   ·rename_i b off Z;rw[Z]at X;have hb:=X b (by simp[ay]);simp only[hb,bj hb]
   ·rename_i r j v i sz off Z;rw[Z]at X;have b9:=X r (by simp[ay]);rw[ci (l:=.al r j v) (λq O=>X q (by simp[aw]at O;simp[ay,O]))];split
    ·rw[wA b9 (X EPO (by simp[ay])) a9]
    ·rfl
   ·rfl
 |nilCheck x =>
  have H:=M (by simp[I]) (by simp[I]);simp only[I,cm]at H;have J:=dv H (x:=x) (bd (by simp[Op.operands]));have e:one st' x=one st x:=dD J.1;have X:∀ q∈aw [one st x],st' q=st q:=λq O=>J.2 q (ji O)
  simp only[act,I,e,hw];split
  ·rfl
  ·rfl
  ·rename_i r j v i sz off Z;rw[Z]at X;rw[X r (by simp[aw])]
  ·rfl
  ·rename_i p ks ep a y off Z;rw[Z,vd]at X;rw[jB X]
  ·rfl
 |binOp op t x y t' =>
  have H:=M (by simp[I]) (by simp[I]);simp only[I,cm]at H;have J:=dv H (x:=x) (bd (by simp[Op.operands]));have hy:=dv H (x:=y) (bd (by simp[Op.operands]));have e1:one st' x=one st x:=dD J.1;have e2:one st' y=one st y:=dD hy.1;have e3:au st' x=au st x:=dR J.1;have e4:au st' y=au st y:=dR hy.1;simp only[act,I,e1,e2,e3,e4,hw,eB J.2,eB hy.2]
 |unOp op t x =>
  have H:=M (by simp[I]) (by simp[I]);simp only[I,cm]at H;have e1:one st' x=one st x:=dD λt Y=>H t (bd (by simp[Op.operands]) t Y)
  simp only[act,I,e1,hw]
 |convert s t x =>
  have H:=M (by simp[I]) (by simp[I]);simp only[I,cm]at H;have J:=dv H (x:=x) (bd (by simp[Op.operands]));have e1:one st' x=one st x:=dD J.1;have X:∀ q∈aw [one st x],st' q=st q:=λq O=>J.2 q (ji O)
  simp only[act,I,e1,hw];split
  ·rfl
  ·rw[ci X]
  ·rfl
  ·rfl
 |makeSlice t n c =>
  have H:=M (by simp[I]) (by simp[I]);simp only[I,cm]at H;have e1:one st' n=one st n:=dD λt Y=>H t (bd (by simp[Op.operands]) t Y)
  have e2:one st' c=one st c:=dD λt Y=>H t (bd (by simp[Op.operands]) t Y)
  simp only[act,I,e1,e2,hw]
 |slice t x lo hi mx =>
  have H:=M (by simp[I]) (by simp[I]);simp only[I,cm]at H;have hE:=H EPO (BG ..);have H:=λq O=>H q (BF _ O)
  have J:=dv H (x:=x) (bd (by simp[Op.operands]));have c0:∀ n,di st' lo n=di st lo n:=λn=>nr λy hy t Y=>H t (BD _ (bd (by simp[Op.operands,hy]) t Y))
  have bx:∀ n,di st' hi n=di st hi n:=λn=>nr λy hy t Y=>H t (BD _ (bd (by simp[Op.operands,hy]) t Y))
  have e:one st' x=one st x:=dD J.1;have X:∀ q∈aw [one st x],st' q=st q:=λq O=>J.2 q (ji O)
  have ba:∀ m,mx=some m->di st' (some m) 0=di st (some m) 0:=λm hm=>nr λy hy t Y=>H t (BD _ (bd (by simp[Op.operands,hm,C6 hy]) t Y))
  simp only[act,I,e,c0,bx,ci X,hE];cases hd:o.dst with
  |none=>cases mx <;> rfl
  |some d =>
   cases mx with
   |none=>simp only[a0 _ _ _ _ hd]
   |some m =>
    simp only[ba m rfl];split
    ·rename_i r j v _ Z _;rw[Z]at X;rw[ci X,iq (st:=st) (st':=st') (λz hz=>by simp at hz;subst hz;exact X _ (by simp[aw]))];simp only[a0 _ _ _ _ hd]
    ·rfl
 |fieldAddr t x f =>
  have H:=M (by simp[I]) (by simp[I]);simp only[I,cm]at H;have J:=dv H (x:=x) (bd (by simp[Op.operands]));have e:one st' x=one st x:=dD J.1;have X:∀ q∈aw [one st x],st' q=st q:=λq O=>J.2 q (ji O)
  simp only[act,I,e,hw];split
  ·split
   ·split
    ·rfl
    ·rfl
    ·rename_i r j v i sz off Z;rw[Z]at X;rw[X r (by simp[aw])]
    ·rename_i p ks ep a y o' Z;rw[Z,vd]at X;rw[jB X]
    ·rfl
   ·rfl
  ·rfl
 |field t x f =>
  have H:=M (by simp[I]) (by simp[I]);simp only[I,cm]at H;have e1:au st' x=au st x:=dR λt Y=>H t (bd (by simp[Op.operands]) t Y)
  simp only[act,I,e1,hw]
 |indexAddr t x i =>
  simp only[I,eR]at hh;have b3:∀ y∈(Op.indexAddr t x i).operands,∀ t,y=.tmp t->bJ (st' t)=bJ (st t):=λy hy t Y=>hh t (BD _ (bd hy t Y))
  have e:one st' x=one st x:=zE (b3 x (by simp[Op.operands]));have e2:one st' i=one st i:=zE (b3 i (by simp[Op.operands]));have X:∀ q∈aw [one st x],bJ (st' q)=bJ (st q):=λq O=>by
   obtain⟨t',bl,O⟩:=rE (ji O);have a5:=bd (xs:=(Op.indexAddr t x i).operands) (x:=x) (by simp[Op.operands]) t' bl;rcases O with rfl|O
   ·exact hh q (BD _ a5)
   ·exact hh q (BE _ (BT.2 ⟨t',a5,O⟩))
  simp only[act,I,e,e2,hw];split
  ·split
   ·rfl
   ·split
    ·rename_i r j v Z;rw[Z]at X;have O:=X r (by simp[aw]);have hv:(st' r).ver=(st r).ver:=by simp only[bJ,BS]at O;exact O.1
     simp only[aD,hv];cases BJ (st r).ver v with
     |false=>rfl
     |true =>
      simp only[cond_true];rcases tF (xW O j) with e3|⟨p,p',h1,h2,E1,E2,e',c5,xs,c6,e3,e4,e5,e6⟩
      ·rw[e3]
      ·rw[e3,e4];simp only[pn,e5,Ax,e6]
    ·rfl
    ·rename_i p ks ep c4 E' e' xs Z;rw[Z,ip]at X;rw[zi X]
    ·rfl
   ·rfl
  ·rfl
 |index t x i =>
  have H:=M (by simp[I]) (by simp[I]);simp only[I,cm]at H;have J:=dv H (x:=x) (bd (by simp[Op.operands]));have e1:one st' x=one st x:=dD J.1;have e2:one st' i=one st i:=dD (dv H (x:=i) (bd (by simp[Op.operands]))).1;have e3:au st' x=au st x:=dR J.1;simp only[act,I,e1,e2,e3,hw,λe n=>nm (e:=e) n _ J.2]
 |extract x i =>
  have H:=M (by simp[I]) (by simp[I]);simp only[I,cm]at H;have e1:au st' x=au st x:=dR λt Y=>H t (bd (by simp[Op.operands]) t Y)
  simp only[act,I,e1,hw]
 |makeFunc fn first a3 =>
  have H:=M (by simp[I]) (by simp[I]);simp only[I,cm]at H;cases fn with
  |func f =>
   have:sl st' a3.toList=sl st a3.toList:=vf (st:=st) (st':=st') a3.toList (some []) (λx J t Y=>H t (bd (by simp[Op.operands];exact .inr (by simpa using J)) t Y));simp only[act,I,hw,this]
  |_=>simp only[act,I]
 |call c =>
  have H:=M (by simp[I]) (by simp[I]);simp only[I,cm]at H;simp only[act,I];split
  ·rfl
  ·rename_i d hd;obtain⟨b1,b2⟩:=tG hd h;cases hc:c.callee with
   |value f =>
    simp only[hc]at H;have hT:=H TMP (BG ..);have hE:=H EPO (BF _ (BG ..));have H:=λq O=>H q (BF _ (BF _ O))
    have b4:f∈(Op.call c).operands:=by simp[Op.operands,Call.operands,hc]
    have ad:∀ x∈c.args.toList,x∈(Op.call c).operands:=λx J=>by
     simp only[Op.operands,Call.operands,hc,C0];exact .inr (by simpa using J)
    have a5:∀ x∈(Op.call c).operands,∀ t,x=.tmp t->st' t=st t:=λx J t Y=>H t (by
     unfold kw;exact BD _ (BD _ (BD _ (bd J t Y))))
    have e1:one st' f=one st f:=dD (a5 f b4);have e2:c.args.toList.map (au st')=c.args.toList.map (au st):=Cn λx J=>dR (a5 x (ad x J))
    have a4:∀ x∈c.args.toList.map (au st),eJ st st' x.2:=by
     intro x J;obtain⟨y,hy,rfl⟩:=BL.1 J;exact qg H (bd (ad y hy))
    simp only[e1,e2];split
    ·rename_i g a3 Z;refine tJ hT hE ?_ b1 b2;intro x J;rcases BB.1 J with J|J
     ·exact a4 x J
     ·obtain⟨b,hb,rfl⟩:=BL.1 J;have hf:=qg H (bd b4);rw[qL Z (by simp)]at hf;exact pd hf _ (BL.2 ⟨b,hb,rfl⟩)
    ·rename_i g a3 Z;refine tJ hT hE ?_ b1 b2;intro x J;rcases BB.1 J with J|J
     ·exact a4 x J
     ·obtain⟨cp,bn,rfl⟩:=BL.1 J;exact ny _ (BL.2 ⟨cp,bn,rfl⟩)
    ·rename_i As B φ Z;rw[rI As _ (λx J q O=>(a4 x J).d1 q (fC O))];simp only[hw]
    ·rfl
   |builtin b =>
    simp only[hc]at H;have hT:=H TMP (BG ..);have H:=λq O=>H q (BF _ O)
    have ad:∀ x∈c.args.toList,x∈(Op.call c).operands:=λx J=>by
     simp only[Op.operands,Call.operands,hc,C0];exact .inr (by simpa using J)
    have J:∀ x∈c.args.toList,one st' x=one st x/\∀ q∈aw [one st x],st' q=st q:=λx J=>by
     have:=dv H (bd (ad x J));exact⟨dD this.1,λq O=>this.2 q (ji O)⟩
    cases b with
    |len =>
     dsimp only;split
     ·rename_i x a1;have h1:=J x (by rw[a1];simp);simp only[h1.1,ci h1.2,hw]
     ·rfl
    |append =>
     dsimp only;split
     ·rename_i x y t u a1 _;have h1:=J x (by rw[a1];simp);have h2:=J y (by rw[a1];simp);split
      ·rw[h1.1,h2.1,ww hT h1.2 h2.2 b1]
      ·rfl
     ·rfl
    |min =>
     dsimp only;split
     ·rename_i x y a1;rw[(J x (by rw[a1];simp)).1,(J y (by rw[a1];simp)).1];simp only[hw]
     ·rfl
    |max =>
     dsimp only;split
     ·rename_i x y a1;rw[(J x (by rw[a1];simp)).1,(J y (by rw[a1];simp)).1];simp only[hw]
     ·rfl
    |_=>rfl
   |invoke x n=>rfl
 |_=>simp only[act,I]
end
section
variable {P:Program} {V:Env} {Γ:List Ctr} {T:TypeId->TI} {st st':St} {o:Oper} {R:Type} {all:Array Oper}
def mt (Γ:List Ctr)(T:TypeId->TI)(all:Array Oper)(o:Oper)(st:St)(U:Upd):Prop :=
 match o.guard with
 |none=>act Γ T o st some=some U
 |some (j,r)=>∃ t,(all[j]?).bind (·.dst)=some t /\
  ((∃ b,(st t).sh=.one/\(st t).ls=[.bool b]/\((b=r/\act Γ T o st some=some U)\/(b≠r/\U=eD st o)))\/((st t).sh=.und/\U=eD st o))
def jC (Γ:List Ctr)(T:TypeId->TI)(all:Array Oper)(o:Oper)(st:St)(U:Upd)(t:cN):Prop :=
 ((∀ q∈U.map (·.1),q∈t.wr\/q∈t.cw)/\(∀ q∈t.wr,q∈U.map (·.1))/\∀ q,q∈U.map (·.1)->q∉t.wr->bJ (ac U st q)=bJ (st q))/\match o.guard with
 |none=>act Γ T o st some=some U/\(∀ q∈fj st o,q∈t.rd)/\∀ q∈eR st o.op,q∈t.hd
 |some (j,r)=>∃ s,(all[j]?).bind (·.dst)=some s/\s∈t.rd /\
  ((∃ b,(st s).sh=.one/\(st s).ls=[.bool b]/\((b=r/\act Γ T o st some=some U/\(∀ q∈fj st o,q∈t.rd)/\∀ q∈eR st o.op,q∈t.hd)\/(b≠r/\U=eD st o/\∀ d,o.dst=some d->d∈t.wr))) \/
   ((st s).sh=.und/\U=eD st o/\∀ d,o.dst=some d->d∈t.wr))
theorem tK {α:Type}:∀ {l:List α} {j:Nat} {x:α},l[j]?=some x->l.set j x=l
 |[],_,_,h=>by simp at h
 |y::l,0,x,h=>by simp at h;subst h;rfl
 |y::l,j+1,x,h=>by rw[Ct,tK (by simpa using h)]
theorem Ay {U:Upd}(h:act Γ T o st some=some U):∀ q∈dY st o,bJ (ac U st q)=bJ (st q):=by
  intro q z;unfold dY at z;split at z
  · rename_i t x y J
    split at z
    · rename_i r j a1 i sz off hx
      simp only[CA]at z;subst z;simp only[act,wrU,J]at h;split at h
      · cases h
      · cases M:BJ (au st y).2.length (T t).cells&&decide ((au st y).1=bg (T t).agg)&&!decide ((T t).cells=0) with
        |false=>simp[M]at h
        |true =>
          simp only[M,cond_true,hx]at h;split at h
          · rename_i p hh E e xs hd
            cases hc:BJ sz e.cells&&decide (off+(au st y).2.length<=e.cells)&&rY q with
            |false=>simp[hc]at h
            |true =>
              simp only[hc,cond_true]at h;obtain⟨_,hl⟩:=eZ hd (by simp);have u:∀ (Z:Bool) (H:Option (Nat×Nat)) (v:e.den) (X:Upd),bJ (ac ((q,⟨(st q).ver,(st q).sh,aS (st q).ls j (.own Z H E e (xs.set i v))⟩)::X) st q)=bJ (st q):=by
                intro Z H v X;rw[aO,bi];simp only[bJ,aS];rw[List.map_set,tK];rw[Cw,hl];simp[jq]
              unfold gH at h;obtain⟨a0,_,h⟩:=B8.1 h;split at h
              · rename_i t _
                cases I:t.rest.isEmpty&&aY t.kill&&dC t.frz t.kill&&!((t.kill++t.frz).any λk=>BJ k.1 q) with
                |false=>rw[I]at h;cases h
                |true =>
                  simp only[I,cond_true]at h;cases hh with
                  |none =>
                    simp only[BA]at h;rw[<- h];exact u _ _ _ _
                  |some hp =>
                    obtain⟨hi,O⟩:=hp;simp only at h;cases Y:Cm off O&&Cf O (off+(au st y).2.length) with
                    |false =>
                      rw[Y]at h;simp only[cond_false,BA]at h;rw[<- h];exact u _ _ _ _
                    |true =>
                      rw[Y]at h;simp only[cond_true]at h;cases h2:BJ i hi with
                      |false=>rw[h2]at h;cases h
                      |true =>
                        rw[h2]at h;simp only[cond_true,BA]at h;rw[<- h];exact u _ _ _ _
              · cases h
          · cases h
    · simp at z
  · simp at z
theorem pf {t:Nat}{b:Bool}(u:(st t).sh=.one)(r:(st t).ls=[.bool b]):lit st t b=st:=by
 funext q;unfold lit;rcases am t q ⟨(st t).ver,.one,[.bool b]⟩ st with ⟨rfl,e⟩|⟨_,e⟩
 ·rw[e,<- u,<- r]
 ·exact e
theorem wB {U:Upd}(h:act Γ T o st some=some U):(∀ q∈U.map (·.1),q∈(U.map (·.1)).filter (λq=>!((dY st o).any (BJ q)))\/q∈dY st o)/\(∀ q∈(U.map (·.1)).filter (λq=>!((dY st o).any (BJ q))),q∈U.map (·.1)) /\
  ∀ q,q∈U.map (·.1)->q∉(U.map (·.1)).filter (λq=>!((dY st o).any (BJ q)))->bJ (ac U st q)=bJ (st q):=by
 have r:∀ q,(dY st o).any (BJ q)=true->q∈dY st o:=λq u=>by
  obtain⟨x,H,I⟩:=CQ.1 u;rw[BH I];exact H
 refine⟨λq u=>?_,λq u=>(CL.1 u).1,λq u z=>?_⟩
 ·cases y:(dY st o).any (BJ q) with
  |true=>exact .inr (r q y)
  |false=>exact .inl (CL.2 ⟨u,by rw[y];rfl⟩)
 ·refine Ay h q (r q ?_);cases y:(dY st o).any (BJ q) with
  |true=>rfl
  |false=>exact absurd (CL.2 ⟨u,by rw[y];rfl⟩) z
theorem Az {κ:St->cN->Option R}{r:R}(h:opK Γ T all o st κ=some r):∃ U t,jC Γ T all o st U t/\κ (ac U st) t=some r:=by
 have X:∀ (H:List Nat),act Γ T o st (λU=>κ (ac U st) ⟨H++fj st o,eR st o.op,(U.map (·.1)).filter (λq=>!((dY st o).any (BJ q))),dY st o⟩)=some r ->
   ∃ U,act Γ T o st some=some U/\κ (ac U st) ⟨H++fj st o,eR st o.op,(U.map (·.1)).filter (λq=>!((dY st o).any (BJ q))),dY st o⟩=some r:=by
  intro H h;rw[tC]at h;obtain⟨U,M,Y⟩:=B8.1 h;exact⟨U,M,Y⟩
 have y:((∀ q∈(eD st o).map (·.1),q∈o.dst.toList\/q∈([]:List Nat))/\(∀ q∈o.dst.toList,q∈(eD st o).map (·.1))/\∀ q,q∈(eD st o).map (·.1)->q∉o.dst.toList->bJ (ac (eD st o) st q)=bJ (st q)):=by
  unfold eD;cases o.dst with
  |none=>simp
  |some d=>simp
 unfold opK at h;unfold jC;cases hg:o.guard with
 |none =>
  simp only[hg]at h;obtain⟨U,M,Y⟩:=X [] h;exact⟨U,_,⟨wB M,M,λq I=>by simpa using I,λq I=>I⟩,Y⟩
 |some jw =>
  obtain⟨j,O⟩:=jw;simp only[hg]at h;split at h
  ·rename_i t Z;have z:∀ d,o.dst=some d->d∈o.dst.toList:=λd hd=>by simp[hd]
   split at h
   ·rename_i b u J;have hl:∀ b',b'=b->lit st t b'=st:=λb' e=>pf u (by rw[J,e])
    cases b with
    |true =>
     simp only[cond_true,hl true rfl]at h;cases O with
     |true =>
      simp only[cond_true]at h;obtain⟨U,M,Y⟩:=X [t] h;exact⟨U,_,⟨wB M,t,Z,by simp,.inl ⟨true,u,J,.inl ⟨rfl,M,λq I=>BE _ I,λq I=>I⟩⟩⟩,Y⟩
     |false =>
      simp only[cond_false]at h;exact⟨eD st o,_,⟨y,t,Z,by simp,.inl ⟨true,u,J,.inr ⟨by simp,rfl,z⟩⟩⟩,h⟩
    |false =>
     simp only[cond_false,hl false rfl]at h;cases O with
     |true =>
      simp only[cond_true]at h;exact⟨eD st o,_,⟨y,t,Z,by simp,.inl ⟨false,u,J,.inr ⟨by simp,rfl,z⟩⟩⟩,h⟩
     |false =>
      simp only[cond_false]at h;obtain⟨U,M,Y⟩:=X [t] h;exact⟨U,_,⟨wB M,t,Z,by simp,.inl ⟨false,u,J,.inl ⟨rfl,M,λq I=>BE _ I,λq I=>I⟩⟩⟩,Y⟩
   ·rename_i u;exact⟨eD st o,_,⟨y,t,Z,by simp,.inr ⟨u,rfl,z⟩⟩,h⟩
   ·cases h
  ·cases h
theorem vg {U:Upd}(e:U=eD st o)(u:∀ d,o.dst=some d->st' d=st d):U=eD st' o:=by
 rw[e];unfold eD;cases r:o.dst with
 |none=>rfl
 |some d=>simp only[u d r]
theorem jC.frame {U:Upd}{t:cN}(h:jC Γ T all o st U t)(u:∀ q,q∈t.rd\/q∈t.wr->st' q=st q)(hh:∀ q∈t.hd,bJ (st' q)=bJ (st q)):mt Γ T all o st' U:=by
 obtain⟨_,h⟩:=h;have r:act Γ T o st some=some U->(∀ q∈fj st o,q∈t.rd)->(∀ q∈eR st o.op,q∈t.hd)->act Γ T o st' some=some U:=by
  intro H Z Y;rw[Bp (λq hq=>u q (.inl (Z q hq))) (λq hq=>hh q (Y q hq))];exact H
 unfold mt;cases hg:o.guard with
 |none =>
  rw[hg]at h;exact r h.1 h.2.1 h.2.2
 |some jw =>
  obtain⟨j,a1⟩:=jw;rw[hg]at h;obtain⟨s,H,Z,Y⟩:=h;have O:=u s (.inl Z);refine⟨s,H,?_⟩;rw[O];rcases Y with ⟨b,h4,X,J⟩|⟨h4,X,J⟩
  ·refine .inl ⟨b,h4,X,?_⟩;rcases J with ⟨M,y,I,a0⟩|⟨M,y,I⟩
   ·exact .inl ⟨M,r y I a0⟩
   ·exact .inr ⟨M,vg y (λd z=>u d (.inr (I d z)))⟩
  ·exact .inr ⟨h4,vg X (λd z=>u d (.inr (J d z)))⟩
theorem wC (hV:ax V)(hT:TOk P T)(hΓ:∀ c∈Γ,bP P c){ops:Array Oper}{i:Nat}(hi:ops[i]?=some o)(M:bM V o)(z:∀ j u,o.guard=some (j,u)->∀ s,(ops[j]?).bind (·.dst)=some s->s<V.nt)
  {U:Upd} (h:mt Γ T ops o st U) {a:Act} {w:World} (H:Rel P V st a w) {K:Act->World->Prop} {Q:Exit->Act->World->Prop} (hK:∀ a' w',Rel P V (ac U st) a' w'->K a' w'):wpOp P ops Q i K a w:=by
 obtain⟨W,H⟩:=H;unfold wpOp;simp only[hi];have a0:act Γ T o st some=some U->o.wp P a w K Q:=by
  intro Y;obtain⟨U',h2,h3⟩:=Bo hV hT hΓ M Y;cases h2;exact h3 W a w H K Q hK
 have y:U=eD st o->K (a.put o.dst undef) w:=by
  intro e;refine hK _ _ ?_;subst e;unfold eD;cases hd:o.dst with
  |none=>exact⟨W,H⟩
  |some d=>exact H.putLs hV d (M d hd).1 (M d hd).2 _ .und [] undef [] (CJ _) ⟨rfl,rfl⟩ trivial
 unfold mt at h;cases J:o.guard with
 |none =>
  rw[J]at h;have O:Region.wanted o (yielded ops a.tmps)=true:=by simp[Region.wanted,J]
  rw[if_pos O];exact .inl (a0 h)
 |some jw =>
  obtain⟨j,u⟩:=jw;rw[J]at h;obtain⟨s,Y,h2⟩:=h;have a1:=z j u J s Y;have a2:s<GH:=Cu a1 hV.nt;have r:=H.slots s a2;have a3:s<a.tmps.size:=by rw[H.nt];exact a1
  have I:a.tmps[s]?=some (a.tmps.getD s undef):=by
   rw[BN,BM a3];rfl
  rcases h2 with ⟨b,h3,h4,h5⟩|⟨h3,h5⟩
  ·have Z:=H.len s;rw[h4]at Z;rw[h3]at r;have r:W.cs s=[a.tmps.getD s undef]:=r;have X:=H.leaf s 0 (.bool b) (a.tmps.getD s undef) (by rw[h4];rfl) (by rw[r];rfl);have X:a.tmps.getD s undef=.bool b:=X;have hy:yielded ops a.tmps j=some b:=by simp[yielded,Y,I,X]
   rcases h5 with ⟨rfl,h6⟩|⟨h6,h7⟩
   ·have O:Region.wanted o (yielded ops a.tmps)=true:=by simp[Region.wanted,J,hy]
    rw[if_pos O];exact .inl (a0 h6)
   ·have O:Region.wanted o (yielded ops a.tmps)=false:=by
     simp only[Region.wanted,J,hy];cases b <;> cases u <;> simp at h6 <;> rfl
    rw[O];exact y h7
  ·rw[h3]at r;obtain⟨X,_⟩:=r;have hy:yielded ops a.tmps j=none:=by
    unfold yielded;rw[Y,CF,I,X];rfl
   have O:Region.wanted o (yielded ops a.tmps)=false:=by simp[Region.wanted,J,hy]
   rw[O];exact y h5
def Run (Γ:List Ctr)(T:TypeId->TI)(all:Array Oper):St->List Oper->List Upd->List cN->St->Prop
 |st,[],[],[],st'=>st'=st
 |st,o::u,U::y,t::r,st'=>jC Γ T all o st U t/\Run Γ T all (ac U st) u y r st'
 |_,_,_,_,_=>False
theorem pg:∀ (H:List Oper) (st:St) (y:List cN) (z:St->List cN->Option R) (r:R),ql Γ T all H st y z=some r ->
  ∃ I u st',Run Γ T all st H I u st'/\z st' (y++u)=some r
 |[],st,y,z,r,h=>⟨[],[],st,rfl,by simpa[ql]using h⟩
 |o::H,st,y,z,r,h=>by
  simp only[ql]at h;obtain⟨U,t,X,O⟩:=Az h;obtain⟨I,u,st',M,J⟩:=pg H (ac U st) (y++[t]) z r O;exact⟨U::I,t::u,st',⟨X,M⟩,by rw[B7]at J;exact J⟩
theorem jC.res {U:Upd}{t:cN}(h:jC Γ T all o st U t):mt Γ T all o st U:=h.frame (λ_ _=>rfl) (λ_ _=>rfl)
theorem vh (Y:ax V)(Z:TOk P T)(hΓ:∀ c∈Γ,bP P c){ops:Array Oper}(y:∀ (i:Nat) (o:Oper),ops[i]?=some o->bM V o)
  (r:∀ (i:Nat) (o:Oper),ops[i]?=some o->∀ j z,o.guard=some (j,z)->∀ s,(ops[j]?).bind (·.dst)=some s->s<V.nt) {Q:Exit->Act->World->Prop} :
  ∀ (u:List Oper) (k:Nat) (st:St) (us:List Upd) (H:List cN) (st':St),ops.toList.drop k=u->Run Γ T ops st u us H st'->(∀ a w,Rel P V st' a w->Q .normal a w) ->
   ∀ a w,Rel P V st a w->wpOps P ops Q (List.range' k u.length) a w
 |[],k,st,[],[],st',_,h,O,a,w,M=>by
  have h:st'=st:=h;subst h;exact O a w M
 |o::u,k,st,U::us,t::H,st',X,h,O,a,w,M=>by
  obtain⟨h1,h2⟩:=h;have J:ops[k]?=some o:=by
   have:(ops.toList.drop k)[0]?=some o:=by rw[X];rfl
   rw[List.getElem?_drop]at this;simpa using this
  rw[CG,List.range'_succ,wpOps_cons];refine wC Y Z hΓ J (y k o J) (r k o J) h1.res M (λa' w' I=>?_);exact vh Y Z hΓ y r u (k+1) (ac U st) us H st' (by rw[<- Cj,X];rfl) h2 O a' w' I
end
section
variable {P:Program} {V:Env} {Γ:List Ctr} {T:TypeId->TI} {st st':St} {o:Oper} {R:Type} {all:Array Oper}
def dg (D:Nat->Bool):List Upd->St->St
 |[],st=>st
 |U::r,st=>dg (λj=>D (j+1)) r (bif D 0 then ac U st else st)
theorem jj {q:Nat}:∀ {U:Upd} (s u:St),q∈U.map (·.1)->ac U s q=ac U u q
 |[],_,_,h=>by simp at h
 |(r,c)::U,s,u,h=>by
  simp only[ac];cases y:BJ q r with
  |true=>rfl
  |false =>
   simp only[cond_false];refine jj s u ?_;simp only[BY,BO]at h;rcases h with rfl|h
   ·simp at y
   ·exact h
theorem eC {q:Nat}:∀ {U:Upd} (s:St),q∉U.map (·.1)->ac U s q=s q
 |[],_,_=>rfl
 |(r,c)::U,s,h=>by
  simp only[BY,BO,not_or]at h;have u:BJ q r=false:=by
   cases u:BJ q r with
   |false=>rfl
   |true=>exact absurd (BH u) h.1
  simp only[ac,u,cond_false];exact eC s h.2
theorem xX {U r:Upd}(h:∀ q,q∈U.map (·.1)->q∉r.map (·.1))(s:St):ac r (ac U s)=ac U (ac r s):=by
 funext q;by_cases u:q∈U.map (·.1)
 ·rw[eC _ (h q u)];exact jj _ _ u
 ·rw[eC (U:=U) _ u];by_cases y:q∈r.map (·.1)
  ·exact jj _ _ y
  ·rw[eC _ y,eC _ y,eC _ u]
theorem mu:∀ {us:List Upd} {D D':Nat->Bool} {s:St},(∀ j,j<us.length->D j=D' j)->dg D us s=dg D' us s
 |[],_,_,_,_=>rfl
 |U::us,D,D',s,h=>by
  simp only[dg];rw[h 0 (by simp)];exact mu (λj r=>h (j+1) (by simpa using r))
theorem nA:∀ {us:List Upd} {D:Nat->Bool} {s:St},(∀ j,D j=false)->dg D us s=s
 |[],_,_,_=>rfl
 |U::us,D,s,h=>by
  simp only[dg,h 0,cond_false];exact nA (λj=>h (j+1))
theorem mv {q:Nat}:∀ {us:List Upd} {D D':Nat->Bool} {s r:St},s q=r q->(∀ (j:Nat) (U:Upd),us[j]?=some U->q∈U.map (·.1)->D j=D' j)->dg D us s q=dg D' us r q
 |[],_,_,_,_,h,_=>h
 |U::us,D,D',s,r,h,H=>by
  simp only[dg];refine mv ?_ (λj y M I=>H (j+1) y (by simpa using M) I);by_cases u:q∈U.map (·.1)
  ·rw[H 0 U rfl u];cases D' 0 with
   |true=>exact jj _ _ u
   |false=>exact h
  ·have z:∀ b:Bool,(bif b then ac U s else s) q=s q:=by intro b;cases b <;> simp[eC _ u]
   have J:∀ b:Bool,(bif b then ac U r else r) q=r q:=by intro b;cases b <;> simp[eC _ u]
   rw[z,J,h]
theorem nB {U:Upd}:∀ {us:List Upd} {D:Nat->Bool} {s:St},(∀ (j:Nat) (u:Upd),us[j]?=some u->D j=true->∀ q,q∈U.map (·.1)->q∉u.map (·.1))->dg D us (ac U s)=ac U (dg D us s)
 |[],_,_,_=>rfl
 |u::us,D,s,h=>by
  simp only[dg];cases H:D 0 with
  |true =>
   simp only[cond_true];rw[xX (h 0 u rfl H)];exact nB (λj r z y=>h (j+1) r (by simpa using z) y)
  |false =>
   simp only[cond_false];exact nB (λj r z y=>h (j+1) r (by simpa using z) y)
theorem oE {U:Upd}:∀ {us:List Upd} {i:Nat} {D D':Nat->Bool} {s:St},us[i]?=some U->D i=false->(∀ j,D' j=(D j||BJ j i)) ->
  (∀ (j:Nat) (u:Upd),us[j]?=some u->i<j->D j=true->∀ q,q∈U.map (·.1)->q∉u.map (·.1))->dg D' us s=ac U (dg D us s)
 |[],i,_,_,_,h,_,_,_=>by simp at h
 |V::us,0,D,D',s,h,I,r,H=>by
  simp at h;subst h;simp only[dg];have y:D' 0=true:=by rw[r 0];simp
  rw[y,I];simp only[cond_true,cond_false];have e:dg (λj=>D' (j+1)) us (ac V s)=dg (λj=>D (j+1)) us (ac V s):=mu (λj _=>by rw[r (j+1)];simp[BJ]);rw[e];exact nB (λj u z J=>H (j+1) u (by simpa using z) (by omega) J)
 |V::us,i+1,D,D',s,h,I,r,H=>by
  simp only[dg];have y:D' 0=D 0:=by rw[r 0];simp[BJ]
  rw[y];exact oE (i:=i) (by simpa using h) I (λj=>by rw[r (j+1)];simp[BJ]) (λj u z J M=>H (j+1) u (by simpa using z) (by omega) M)
theorem qM:∀ {r:List Oper} {us:List Upd} {u:List cN} {s z:St},Run Γ T all s r us u z->∀ (i:Nat) (o:Oper),r[i]?=some o ->
  ∃ U t,us[i]?=some U/\u[i]?=some t/\jC Γ T all o (dg (λj=>decide (j<i)) us s) U t
 |[],_,_,_,_,_,i,o,h=>by simp at h
 |H::r,[],_,_,_,h,_,_,_=>h.elim
 |H::r,_::_,[],_,_,h,_,_,_=>h.elim
 |H::r,U::us,t::u,s,z,h,0,o,y=>by
  simp at y;subst y;exact⟨U,t,rfl,rfl,by rw[nA (λj=>by simp)];exact h.1⟩
 |H::r,U::us,t::u,s,z,h,i+1,o,y=>by
  obtain⟨I,O,J,X,M⟩:=qM h.2 i o (by simpa using y);refine⟨I,O,by simpa using J,by simpa using X,?_⟩;simp only[dg];have e:(λj=>decide (j+1<i+1))=λj=>decide (j<i):=by funext j;simp
  rw[e];simpa using M
theorem vi:∀ {r:List Oper} {us:List Upd} {y:List cN} {s u:St},Run Γ T all s r us y u->us.length=r.length/\y.length=r.length/\u=dg (λ_=>true) us s
 |[],[],[],_,_,h=>⟨rfl,rfl,h⟩
 |[],_::_,_,_,_,h=>h.elim
 |[],[],_::_,_,_,h=>h.elim
 |_::_,[],_,_,_,h=>h.elim
 |_::_,_::_,[],_,_,h=>h.elim
 |o::r,U::us,t::y,s,u,h=>by
  obtain⟨I,H,z⟩:=vi h.2;exact⟨by simp[I],by simp[H],by simpa[dg]using z⟩
theorem qN {q:Nat}:∀ {os:List Oper} {us:List Upd} {z:List cN} {O s':St} {D:Nat->Bool} {F:Nat->Bool} {s sF:St} {B:Prop},Run Γ T all O os us z s'->(∀ (j:Nat) (t:cN),z[j]?=some t->F j=decide (q∈t.wr)) ->
  bJ (s q)=bJ (sF q)->(B->bJ (sF q)=bJ (O q)) ->
  (∀ (j:Nat) (t:cN) (U:Upd),z[j]?=some t->us[j]?=some U->D j=true->q∉t.wr->q∈U.map (·.1)->B/\∀ (k:Nat) (t':cN),k<j->z[k]?=some t'->q∈t'.wr->D k=true) ->
  bJ (dg D us s q)=bJ (dg (λj=>D j&&F j) us sF q)
 |[],[],[],_,_,_,_,_,_,_,_,_,H,_,_=>H
 |[],_::_,_,_,_,_,_,_,_,_,h,_,_,_,_=>h.elim
 |[],[],_::_,_,_,_,_,_,_,_,h,_,_,_,_=>h.elim
 |_::_,[],_,_,_,_,_,_,_,_,h,_,_,_,_=>h.elim
 |_::_,_::_,[],_,_,_,_,_,_,_,h,_,_,_,_=>h.elim
 |o::os,U::us,t::z,O,s',D,F,s,sF,B,h,hF,H,Z,M=>by
  obtain⟨⟨⟨k1,k2,k3⟩,_⟩,I⟩:=h;have y:=hF 0 t rfl;simp only[dg];refine qN (F:=λj=>F (j+1)) (B:=B/\(q∈t.wr->D 0=true)) I (λj t' ht=>hF (j+1) t' (by simpa using ht)) ?_ ?_ ?_
  ·by_cases r:q∈U.map (·.1)
   ·by_cases u:q∈t.wr
    ·rw[y,decide_eq_true u,Cc];cases D 0 with
     |true=>simp only[cond_true];rw[jj s sF r]
     |false=>exact H
    ·rw[y,decide_eq_false u,CV];simp only[cond_false];cases J:D 0 with
     |true =>
      simp only[cond_true];rw[jj s O r,k3 q r u];exact (Z (M 0 t U rfl rfl J u r).1).symm
     |false=>exact H
   ·have e:∀ (b:Bool) (x:St),(bif b then ac U x else x) q=x q:=by intro b x;cases b <;> simp[eC _ r]
    rw[e,e];exact H
  ·rintro⟨hB,J⟩;by_cases r:q∈U.map (·.1)
   ·by_cases u:q∈t.wr
    ·rw[y,decide_eq_true u,Cc,J u];simp only[cond_true];rw[jj sF O r]
    ·rw[y,decide_eq_false u,CV];simp only[cond_false];rw[k3 q r u];exact Z hB
   ·have e:∀ (b:Bool) (x:St),(bif b then ac U x else x) q=x q:=by intro b x;cases b <;> simp[eC _ r]
    rw[e,eC _ r];exact Z hB
  ·intro j t' U' ht hU J u r;obtain⟨g1,g2⟩:=M (j+1) t' U' (by simpa using ht) (by simpa using hU) J u r;exact⟨⟨g1,λa0=>g2 0 t (by omega) rfl a0⟩,λk t2 hk Y X=>g2 (k+1) t2 (by omega) (by simpa using Y) X⟩
theorem rJ {f:Nat->Nat}{i:Nat}:∀ (l:List Edge) (s:Nat),(l.foldl (λs e=>bif Region.binds .any e then s ||| 2 ^ e.on ||| f e.on else s) s).testBit i=true ->
  s.testBit i=true\/∃ e∈l,Region.binds .any e=true/\(i=e.on\/(f e.on).testBit i=true)
 |[],s,h=>.inl h
 |e::l,s,h=>by
  simp only[C7]at h;rcases rJ l _ h with h|⟨u,z,y⟩
  ·cases r:Region.binds .any e with
   |false=>rw[r]at h;exact .inl h
   |true =>
    rw[r]at h;simp only[cond_true,Nat.testBit_or,CR]at h;rcases h with (h|h)|h
    ·exact .inl h
    ·refine .inr ⟨e,BG ..,r,.inl ?_⟩;rw[Nat.testBit_two_pow]at h;exact (of_decide_eq_true h).symm
    ·exact .inr ⟨e,BG ..,r,.inr h⟩
  ·exact .inr ⟨u,BF _ z,y⟩
theorem tL:∀ (z:List Oper) (r:List Nat),(∀ j,j<r.length->(jD z r).getD j 0=r.getD j 0) /\
  ∀ (k:Nat) (o:Oper),z[k]?=some o->∃ u:List Nat,u.length=r.length+k/\(∀ j,j<u.length->u.getD j 0=(jD z r).getD j 0) /\
   (jD z r).getD (r.length+k) 0=o.after.toList.foldl (λs e=>bif Region.binds .any e then s ||| 2 ^ e.on ||| u.getD e.on 0 else s) 0
 |[],r=>⟨λ_ _=>rfl,λk o h=>by simp at h⟩
 |o::z,r=>by
  obtain⟨I,J⟩:=tL z (r++[o.after.toList.foldl (λs e=>bif Region.binds .any e then s ||| 2 ^ e.on ||| r.getD e.on 0 else s) 0]);have y:∀ j,j<r.length->(jD (o::z) r).getD j 0=r.getD j 0:=by
   intro j H;simp only[jD];rw[I j (by simp;omega)];simp[BP,B4 H]
  refine⟨y,λk Y h=>?_⟩;cases k with
  |zero =>
   simp at h;subst h;refine⟨r,rfl,λj H=>(y j H).symm,?_⟩;simp only[jD];rw[Nat.add_zero,I r.length (by simp)];simp[BP]
  |succ k =>
   obtain⟨u,M,O,X⟩:=J k Y (by simpa using h);refine⟨u,by simp at M;omega,λj H=>O j H,?_⟩;simp only[jD];have e:r.length+(k+1)=(r++[o.after.toList.foldl (λs e=>bif Region.binds .any e then s ||| 2 ^ e.on ||| r.getD e.on 0 else s) 0]).length+k:=by simp;omega
   rw[e];exact X
theorem jr {ops:Array Oper}{D:Nat->Prop}(z:∀ (j:Nat) (o:Oper),ops[j]?=some o->D j->∀ e∈o.after.toList,Region.binds .any e=true->D e.on) :
  ∀ (n j:Nat),j<n->∀ (o:Oper),ops[j]?=some o->(∀ e∈o.after.toList,Region.binds .any e=true->D e.on)->∀ i,((jD ops.toList []).getD j 0).testBit i=true->D i
 |0,_,h,_,_,_,_,_=>by omega
 |n+1,j,hj,o,I,M,i,J=>by
  obtain⟨r,Z,h2,X⟩:=(tL ops.toList []).2 j o (by simpa using I);simp only[List.length_nil,CK]at Z X;rw[X]at J;rcases rJ (f:=λk=>r.getD k 0) _ _ J with h|⟨e,Y,O,y⟩
  ·simp at h
  ·rcases y with rfl|y
   ·exact M e Y O
   ·have H:e.on<r.length:=by
     apply B5;intro hn;have:r.getD e.on 0=0:=by
      rw[BP,Ch (by omega)];rfl
     rw[this]at y;simp at y
    rw[h2 _ H]at y;have hD:=M e Y O;have u:e.on<ops.size:=by
     have:=(CW.1 I).1;omega
    exact jr z n e.on (by omega) ops[e.on] (BM u) (z e.on _ (BM u) hD) i y
theorem fT {a b:List Nat}(h:lN a b=false){q:Nat}(u:q∈a):q∉b:=by
 intro r;unfold lN at h;rw[Ca]at h;have:=h q u;simp only[CQ,not_exists,not_and]at this;exact this q r (by simp)
theorem lk {r:List Nat}{u:List cN}(h:pt r u=true){i j:Nat}(z:i<j){x y:cN}(O:u[i]?=some x)(H:u[j]?=some y):(r.getD j 0).testBit i=true\/x.apart y=true:=by
 unfold pt at h;rw[BX]at h;have M:=(BK.1 H).1;have I:=h j (by simpa using M);rw[BX]at I;have J:=I i (by simpa using z);simp only[O,H,CR]at J;exact J
theorem qh {p p':Nat->Bool}{i:Nat}(I:p i=true)(r:p' i=false)(h:∀ j,j≠i->p' j=p j):∀ (l:List Nat),l.Nodup->i∈l->l.countP p'+1=l.countP p
 |[],_,z=>by simp at z
 |x::l,u,z=>by
  rw[CB]at u;by_cases H:x=i
  ·subst H;have e:l.countP p'=l.countP p:=by
    apply List.countP_congr;intro y J;rw[h y (λe=>u.1 (e ▸ J))]
   simp[I,r,e]
  ·have M:=qh I r h l u.2 ((BO.1 z).resolve_left (λe=>H e.symm));simp only[C3,h x H];omega
theorem Bq (hV:ax V)(hT:TOk P T)(hΓ:∀ c∈Γ,bP P c){ops:Array Oper}(e7:∀ (i:Nat) (o:Oper),ops[i]?=some o->bM V o)
  (b9:∀ (i:Nat) (o:Oper),ops[i]?=some o->∀ j dc,o.guard=some (j,dc)->∀ s,(ops[j]?).bind (·.dst)=some s->s<V.nt) {Q:Exit->Act->World->Prop}
  {us:List Upd} {ts:List cN} {s0 s1:St} (a1:Run Γ T ops s0 ops.toList us ts s1) (a4:nH ops=true) (c4:pt (jD ops.toList []) ts=true) (hQ:∀ a w,Rel P V s1 a w->Q .normal a w) :
  ∀ (a0:Nat) (r:Array Bool) (a:Act) (w:World),r.size=ops.size->(C9 ops.size).countP (λi=>!r.getD i true)=a0 ->
   (∀ (j:Nat) (o:Oper),ops[j]?=some o->r.getD j false=true->∀ e∈o.after.toList,Region.binds .any e=true->r.getD e.on false=true) ->
   Rel P V (dg (λj=>r.getD j false) us s0) a w->wpAny P .any ops Q a0 r a w:=by
 obtain⟨eg,ef,d1⟩:=vi a1;have ec:ops.toList.length=ops.size:=Co;have ba:∀ (r:Array Bool),r.size=ops.size->Region.ready .any ops r=[]->∀ i,i<ops.size->r.getD i false=true:=by
  intro r a2 hr i;induction i using C8 with
  |ind i ih =>
   intro hi;cases hl:r.getD i false with
   |true=>rfl
   |false =>
    exfalso;have eb:r.getD i true=false:=by
     rw[BN,BM (by omega)]at hl ⊢;exact hl
    have ho:ops[i]?=some ops[i]:=BM hi;have c0:i∈Region.ready .any ops r:=by
     unfold Region.ready;rw[CL];refine⟨by simpa using hi,?_⟩;rw[eb,ho];simp only[DA,Cs,B3,C4];rw[CN];intro e he;cases e3:Region.binds .any e with
     |false=>rfl
     |true =>
      simp only[Bool.not_true,Bool.false_or];have bb:e.on<i:=by
       unfold nH at a4;rw[BX]at a4;have:=a4 i (by simpa using hi);simp only[ho]at this;rw[BX]at this;have:=this e (by simpa using he);simpa[e3]using this
      exact ih e.on bb (by omega)
    rw[hr]at c0;simp at c0
 have bx:∀ (r:Array Bool) (a:Act) (w:World),r.size=ops.size->Rel P V (dg (λj=>r.getD j false) us s0) a w->Region.ready .any ops r=[]->Q .normal a w:=by
  intro r a w a2 hr bl;refine hQ a w ?_;rw[d1];have:dg (λ_=>true) us s0=dg (λj=>r.getD j false) us s0:=mu (λj J=>(ba r a2 bl j (by omega)).symm);rw[this];exact hr
 intro a0;induction a0 with
 |zero =>
  intro r a w a2 O b2 hr;have bl:Region.ready .any ops r=[]:=by
   unfold Region.ready;rw[List.filter_eq_nil_iff];intro i hi hc;rw[Cp]at O;have:=O i hi;simp only[BC]at hc;exact this hc.1
  exact⟨bl,bx r a w a2 hr bl⟩
 |succ a0 ih =>
  intro r a w a2 O b2 hr;refine⟨bx r a w a2 hr,λi hi=>?_⟩;unfold Region.ready at hi;rw[CL]at hi;obtain⟨b4,c2⟩:=hi;have b4:i<ops.size:=by simpa using b4
  have ho:ops[i]?=some ops[i]:=BM b4;rw[ho]at c2;simp only[BC,CE,B3,C4]at c2;obtain⟨b0,a6⟩:=c2;rw[CN]at a6;have X:r.getD i false=false:=by
   rw[BN,BM (by omega)]at b0 ⊢;exact b0
  have d3:∀ e∈(ops[i]).after.toList,Region.binds .any e=true->r.getD e.on false=true:=by
   intro e he hb;have:=a6 e (by simpa using he);simpa[hb]using this
  obtain⟨U,t,hU,ht,b3⟩:=qM a1 i ops[i] (by simp);have b1:∀ (j:Nat) (o:Oper),ops[j]?=some o->(λk=>r.getD k false=true) j->∀ e∈o.after.toList,Region.binds .any e=true->(λk=>r.getD k false=true) e.on:=b2;obtain⟨e4,_,_⟩:=b3.1;have Y:∀ (j:Nat) (M:Upd),us[j]?=some M->∃ H,ts[j]?=some H/\(∀ q∈M.map (·.1),q∈H.wr\/q∈H.cw)/\∀ q∈H.wr,q∈M.map (·.1):=by
   intro j M J;have a5:j<ops.size:=by
    have:=(BK.1 J).1;omega
   obtain⟨U2,t2,h1,Z,h3⟩:=qM a1 j ops[j] (by simp[a5]);rw[J]at h1;cases h1;exact⟨t2,Z,h3.1.1,h3.1.2.1⟩
  have cy:∀ (j:Nat) (M:Upd),us[j]?=some M->j≠i->r.getD j false≠decide (j<i)->∃ H,ts[j]?=some H/\(∀ q∈M.map (·.1),q∈H.wr\/q∈H.cw)/\(H.apart t=true\/t.apart H=true):=by
   intro j M J ad u;obtain⟨H,h1,Z,_⟩:=Y j M J;refine⟨H,h1,Z,?_⟩;rcases Nat.lt_or_gt_of_ne ad with bb|e0
   ·have hl:r.getD j false=false:=by
     cases hl:r.getD j false with
     |false=>rfl
     |true=>rw[hl]at u;simp[bb]at u
    rcases lk c4 bb h1 ht with h3|h3
    ·have:=jr b1 (i+1) i (CJ _) ops[i] ho d3 j h3;rw[hl]at this;cases this
    ·exact .inl h3
   ·have hl:r.getD j false=true:=by
     cases hl:r.getD j false with
     |true=>rfl
     |false=>rw[hl]at u;simp at u;omega
    have a5:j<ops.size:=by
     have:=(BK.1 J).1;omega
    have b5:ops[j]?=some ops[j]:=BM a5;rcases lk c4 e0 ht h1 with h3|h3
    ·have:=jr b1 (j+1) j (CJ _) ops[j] b5 (b2 j _ b5 hl) i h3;rw[X]at this;cases this
    ·exact .inr h3
  have a3:∀ (x y:cN),x.apart y=true->(∀ q,q∈x.wr\/q∈x.cw->(q∉y.wr/\q∉y.cw)/\q∉y.rd)/\(∀ q,q∈y.wr\/q∈y.cw->(q∉x.wr/\q∉x.cw)/\q∉x.rd)/\(∀ q∈x.wr,q∉y.hd)/\∀ q∈y.wr,q∉x.hd:=by
   intro x y h;unfold cN.apart at h;simp only[BC,CE]at h;obtain⟨⟨⟨⟨h1,Z⟩,h3⟩,h4⟩,h5⟩:=h;refine⟨λq I=>?_,λq I=>?_,λq I=>fT h4 I,λq I hx=>fT h5 hx I⟩
   ·have I:=BB.2 I;have:=fT h1 I;simp only[BB,not_or]at this;exact⟨this,fT Z I⟩
   ·have I:=BB.2 I;have:q∉x.wr++x.cw:=λhx=>fT h1 hx I
    simp only[BB,not_or]at this;exact⟨this,λhx=>fT h3 hx I⟩
  have bn:∀ (j:Nat) (M:Upd),us[j]?=some M->j≠i->r.getD j false≠decide (j<i)->∀ q∈M.map (·.1),(q∉t.wr/\q∉t.cw)/\q∉t.rd:=by
   intro j M J ad u q I;obtain⟨H,_,h1,Z⟩:=cy j M J ad u;rcases Z with Z|Z
   ·exact (a3 _ _ Z).1 q (h1 q I)
   ·exact (a3 _ _ Z).2.1 q (h1 q I)
  have c3:∀ (j:Nat) (H:cN),ts[j]?=some H->j≠i->r.getD j false≠decide (j<i)->∀ q∈H.wr,q∉t.hd:=by
   intro j H J ad u q I;have a5:j<us.length:=by
    have:=(BK.1 J).1;omega
   obtain⟨t2,h0,_,Z⟩:=cy j us[j] (BR a5) ad u;rw[J]at h0;cases h0;rcases Z with Z|Z
   ·exact (a3 _ _ Z).2.2.1 q I
   ·exact (a3 _ _ Z).2.2.2 q I
  have cu:mt Γ T ops ops[i] (dg (λj=>r.getD j false) us s0) U:=by
   refine b3.frame (λq I=>?_) (λq I=>?_)
   ·refine mv rfl λj M J cb=>?_
    by_cases z:j=i
    ·subst z;rw[X];simp
    ·apply B5;intro u;have:=bn j M J z u q cb;rcases I with I|I
     ·exact this.2 I
     ·exact this.1.1 I
   ·have cp:∀ (j:Nat) (H:cN),ts[j]?=some H->(λj=>match ts[j]? with|some H=>decide (q∈H.wr)|none=>false) j=decide (q∈H.wr):=λj H h=>by simp only[h]
    have e1:=qN (q:=q) (D:=λj=>r.getD j false) (F:=λj=>match ts[j]? with|some H=>decide (q∈H.wr)|none=>false) (s:=s0) (sF:=s0) (B:=True) a1 cp rfl (λ_=>rfl) (λj H M J hU hD hw c6=>by
     refine⟨trivial,λk t2 hk cx c5=>?_⟩;obtain⟨t3,h3,h4,_⟩:=Y j M hU;rw[J]at h3;cases h3;have e6:=(h4 q c6).resolve_left hw;have a5:j<ops.size:=by
      have:=(BK.1 hU).1;omega
     have b5:ops[j]?=some ops[j]:=BM a5;rcases lk c4 hk cx J with h5|h5
     ·exact jr b1 (j+1) j (CJ _) ops[j] b5 (b2 j _ b5 hD) k h5
     ·exact absurd e6 ((a3 _ _ h5).1 q (.inl c5)).1.2)
    have e2:=qN (q:=q) (D:=λj=>decide (j<i)) (F:=λj=>match ts[j]? with|some H=>decide (q∈H.wr)|none=>false) (s:=s0) (sF:=s0) (B:=True) a1 cp rfl (λ_=>rfl) (λj H M J hU hD hw c6=>by
     refine⟨trivial,λk t2 hk cx c5=>?_⟩;have:=of_decide_eq_true hD;exact decide_eq_true (by omega))
    rw[e1,e2];congr 1;refine mv rfl λj M J cb=>?_
    obtain⟨H,h1,Z,_⟩:=Y j M J;simp only[h1];by_cases hw:q∈H.wr
    ·rw[decide_eq_true hw,Cc,Cc];by_cases z:j=i
     ·subst z;rw[X];simp
     ·apply B5;intro u;exact c3 j H h1 z u q hw I
    ·rw[decide_eq_false hw,CV,CV]
  refine wC hV hT hΓ ho (e7 i _ ho) (b9 i _ ho) cu hr λa' w' e5=>?_
  have a9:∀ (b:Bool) (j:Nat),(r.setIfInBounds i true).getD j b=if j=i then true else r.getD j b:=by
   intro b j;simp only[BN,Array.getElem?_setIfInBounds];by_cases z:j=i
   ·subst z;simp[a2,b4]
   ·rw[if_neg (λe=>z e.symm),if_neg z]
  refine ih _ a' w' (by simpa using a2) ?_ ?_ ?_
  ·have:=qh (p:=λj=>!r.getD j true) (p':=λj=>!(r.setIfInBounds i true).getD j true) (i:=i) (by simp[b0]) (by simp[a9]) (λj J=>by simp[a9,J]) (C9 ops.size) List.nodup_range (by simpa using b4);omega
  ·intro j o' J c1 e he hb;rw[a9]at c1 ⊢;by_cases d2:e.on=i
   ·rw[if_pos d2]
   ·rw[if_neg d2];by_cases z:j=i
    ·subst z;rw[ho]at J;cases J;exact d3 e he hb
    ·rw[if_neg z]at c1;exact b2 j o' J c1 e he hb
  ·have cc:=oE (U:=U) (us:=us) (i:=i) (D:=λj=>r.getD j false) (D':=λj=>(r.setIfInBounds i true).getD j false) (s:=s0) hU X (λj=>by
     simp only[a9];by_cases z:j=i
     ·subst z;simp
     ·have:BJ j i=false:=by
       cases hb:BJ j i with
       |false=>rfl
       |true=>exact absurd (BH hb) z
      simp[z,this])
    (λj M J ed hD q I dd=>by
     have:=bn j M J (by omega) (by rw[hD];simp;omega) q dd;exact (e4 q I).elim this.1.1 this.1.2)
   rw[cc];exact e5
theorem Br (hV:ax V)(hT:TOk P T)(hΓ:∀ c∈Γ,bP P c)(O:P.follows .mixedOrders=true){id:Nat}{ops:Array Oper}{z:Bool}(M:∀ (i:Nat) (o:Oper),ops[i]?=some o->bM V o)
  (u:∀ (i:Nat) (o:Oper),ops[i]?=some o->∀ j X,o.guard=some (j,X)->∀ s,(ops[j]?).bind (·.dst)=some s->s<V.nt) {Q:Exit->Act->World->Prop} {κ:St->Option R} {r:R}
  (h:regK Γ T ops z st κ=some r) (hκ:∀ H,κ H=some r->∀ a w,Rel P V H a w->Q .normal a w) {a:Act} {w:World} (Y:Rel P V st a w):(Code.region id ops z).wp P Q a w:=by
 unfold regK at h;cases z with
 |true =>
  simp only[cond_true]at h;obtain⟨us,Z,H,y,I⟩:=pg _ _ _ _ _ h;simp only[B9]at I;cases J:nH ops&&pt (jD ops.toList []) Z with
  |false=>simp[J]at I
  |true =>
   simp only[J,cond_true]at I;simp only[BC]at J;refine wp_region_any O ?_;have hD:∀ j,(CC ops.size false).getD j false=false:=by
    intro j;simp only[BN,Cd];split <;> rfl
   refine Bq hV hT hΓ M u y J.1 J.2 (hκ H I) ops.size (CC ops.size false) a _ (by simp) ?_ ?_ ?_
   ·rw[List.countP_eq_length.2]
    ·simp
    ·intro i hi;have hi:i<ops.size:=by simpa using hi
     simp[BN,Cd,hi]
   ·intro j o' _ hl;rw[hD]at hl;cases hl
   ·rw[nA (λj=>hD j)];obtain⟨W,Y⟩:=Y;exact⟨W,Y.world hV (w':={ w with drawn:=w.drawn+1 }) (Ck _) rfl rfl rfl (λ_ _=>rfl)⟩
 |false =>
  simp only[cond_false]at h;obtain⟨us,Z,H,y,I⟩:=pg _ _ _ _ _ h;refine wp_region ?_;have:=vh hV hT hΓ M u ops.toList 0 st us Z H (by simp) y (hκ H I) a w Y;rw[Co,<- List.range_eq_range']at this;exact this
end
section
variable {P:Program} {V:Env} {Γ:List Ctr} {T:TypeId->TI} {st st':St} {o:Oper} {R:Type} {all:Array Oper}
theorem kM (live:List Nat):∀ (cs:List Coe) (ls:List Leaf),(cZ st live cs ls).length=ls.length
 |[],[]=>rfl
 |_::_,[]=>rfl
 |[],_::ls=>by simp[cZ,kM live [] ls]
 |_::cs,_::ls=>by simp[cZ,kM live cs ls]
theorem ph (live:List Nat):∀ (cs:List Coe) (ls:List Leaf) (j:Nat) (l:Leaf),(cZ st live cs ls)[j]?=some l->∃ r,ls[j]?=some r/\(l=.dead\/∃ c,l=bt st live c r)
 |[],[],j,l,h=>by simp[cZ]at h
 |_::_,[],j,l,h=>by simp[cZ]at h
 |[],r::ls,0,l,h=>by simp[cZ]at h;exact⟨r,rfl,.inl h.symm⟩
 |c::cs,r::ls,0,l,h=>by simp[cZ]at h;exact⟨r,rfl,.inr ⟨c,h.symm⟩⟩
 |[],r::ls,j+1,l,h=>by
  simp only[cZ,Ce]at h;obtain⟨y,z,u⟩:=ph live [] ls j l h;exact⟨y,by simpa using z,u⟩
 |c::cs,r::ls,j+1,l,h=>by
  simp only[cZ,Ce]at h;obtain⟨y,z,u⟩:=ph live cs ls j l h;exact⟨y,by simpa using z,u⟩
theorem AA (live:List (Nat×List Coe))(q:Nat):lO live st q=bS.none/\q∉live.map (·.1)\/∃ y,lO live st q=⟨0,(st q).sh,cZ st (live.map (·.1)) y (st q).ls⟩/\q∈live.map (·.1):=by
 have H:∀ (u:List Nat) (l:List (Nat×List Coe)),(av (l.map λr=>(r.1,⟨0,(st r.1).sh,cZ st u r.2 (st r.1).ls⟩)) q=bS.none/\q∉l.map (·.1)) \/
   ∃ y,av (l.map λr=>(r.1,⟨0,(st r.1).sh,cZ st u r.2 (st r.1).ls⟩)) q=⟨0,(st q).sh,cZ st u y (st q).ls⟩/\q∈l.map (·.1):=by
  intro u l;induction l with
  |nil=>exact .inl ⟨rfl,by simp⟩
  |cons x l O =>
   obtain⟨r,y⟩:=x;by_cases h:q=r
   ·subst h;exact .inr ⟨y,by simp[av,ac],by simp⟩
   ·have z:BJ q r=false:=by
     cases z:BJ q r with
     |false=>rfl
     |true=>exact absurd (BH z) h
    rcases O with ⟨M,I⟩|⟨J,M,I⟩
    ·refine .inl ⟨?_,by simpa[h]using I⟩;rw[<- M];simp[av,ac,z]
    ·refine .inr ⟨J,?_,by simp only[BY,BO];exact .inr I⟩;rw[<- M];simp[av,ac,z]
 exact H (live.map (·.1)) live
theorem xY {keys:List Nat}{c:Coe}{r:Leaf}(h:ao (bt st keys c r)):ao r\/r=.nil:=by
 cases r with
 |own p u E e y=>exact .inl trivial
 |nil=>exact .inr rfl
 |_ =>
  exfalso;revert h;cases c <;> simp only[bt] <;> first
   |exact id
   |(cases (!_||_:Bool) <;> first | exact id | (split <;> exact id))
   |(cases (_&&_:Bool) <;> exact id)
   |(cases (List.any _ _:Bool) <;> exact id)
   |(cases (List.all _ _:Bool) <;> exact id)
theorem iK.nw {W W':Wit}{w:World}{c:Bool×Bool×(a:Ty)×a.den}{u:Value}(r:∀ k,W.nw k->W'.nw k)(h:iK V W w c u):iK V W' w c u:=by
 have z:∀ (p:Bool) k,gd V W p k->gd V W' p k:=λp k hk=>hk.imp (r k) id
 unfold iK at h ⊢;split at h
 ·rename_i H;rw[if_pos H];obtain⟨b,ob,g,Z,J,I,X,y,M,O,Y⟩:=h;exact⟨b,ob,g,Z,J,I,X.imp (r b) id,y,M.imp (r g) id,Rd.mono (z _) O,Y⟩
 ·rename_i H;rw[if_neg H];obtain⟨g,Z,J,I,M,O,Y⟩:=h;exact⟨g,Z,J,I,M.imp (r g) id,Rd.mono (z _) O,Y⟩
theorem wD {W W':Wit}{w:World}{keys:List Nat}{bs bs':List Nat}{c:Coe}{M:Leaf}{v:Value}(h:aK P V W st w bs M v)
  (z:∀ k,W.nw k->W'.nw k) (hβ:W'.β=W.β) (a9:∀ q,keys.any (BJ q)=true->W'.cs q=W.cs q) (J:∀ b,keys.any (BJ b)=true->(st b).sh=.agg->(st' b).sh=.agg)
  (a4:ao M->bs'=bs) (a2:M=.nil->bs'=[]) (a3:ao M->¬ ao (bt st keys c M)->(∃ p E e,c=.ro p E e)->∀ k∈bs,W'.nw k) :
  aK P V W' st' w bs' (bt st keys c M) v:=by
 have I:∀ (p q:Bool),(!q||p)=true->∀ k,gd V W q k->gd V W' p k:=by
  intro p q a5 k H;rcases H with H|⟨Y,H⟩
  ·exact .inl (z k H)
  ·refine .inr ⟨?_,H⟩;subst Y;simpa using a5
 cases c with
 |kill=>simp only[bt];trivial
 |keep =>
  cases M with
  |int k n=>exact h
  |bool b=>exact h
  |str s=>exact h
  |nil=>exact h
  |hdr n=>exact h
  |fn As B φ=>exact h
  |clr f O =>
   obtain⟨us,Y,h2,h3⟩:=h;exact⟨us,Y,h2,λi c u g1 g2=>(h3 i c u g1 g2).nw z⟩
  |al r j n =>
   simp only[bt];cases y:keys.any (BJ r)&&BJ (st r).ver n with
   |false=>trivial
   |true =>
    simp only[BC]at y;exact⟨C5 _,λ_=>by rw[a9 r y.1];exact h.2 (BH y.2)⟩
  |bp b off =>
   simp only[bt];cases y:keys.any (BJ b) with
   |false=>trivial
   |true =>
    obtain⟨Y,h2,h3⟩:=h;exact⟨Y,J b y h2,by rw[hβ];exact h3⟩
  |clo f O =>
   simp only[bt];cases y:O.all (λb=>keys.any (BJ b)) with
   |false=>trivial
   |true =>
    obtain⟨Y,h2⟩:=h;rw[BX]at y;exact⟨by rw[hβ];exact Y,λb a0=>⟨(h2 b a0).1,J b (y b a0) (h2 b a0).2⟩⟩
  |_=>simp only[bt];trivial
 |own p E e =>
  cases M with
  |nil =>
   have X:v=.slice none 0 0:=h;subst X;rw[a2 rfl];exact OwH.nil w _ E e
  |own q hh E' e' xs =>
   cases hh with
   |some x=>simp only[bt];trivial
   |none =>
    simp only[bt];cases y:(!q||p) with
    |false=>trivial
    |true =>
     rw[a4 trivial];exact OwH.carry h (I p q y) (λ_ _=>rfl) (λ_ _=>rfl)
  |_=>simp only[bt];trivial
 |ro p E e =>
  cases M with
  |nil =>
   have X:v=.slice none 0 0:=h;subst X;exact Rd.nil w _ false E e
  |ro q E' e' xs =>
   simp only[bt];cases y:(!q||p) with
   |false=>trivial
   |true =>
    simp only[cond_true];split
    ·rename_i ys Z;exact Rd.castSh (m:=false) (m':=false) (E:=E) Z (Rd.mono (I p q y) h)
    ·trivial
  |own q hh E' e' xs =>
   cases hh with
   |some x=>simp only[bt];trivial
   |none =>
    have a6:=a3 trivial (by
     simp only[bt];cases (!q||p) with
     |false=>exact id
     |true=>simp only[cond_true];split <;> exact id) ⟨p,E,e,rfl⟩
    simp only[bt];cases y:(!q||p) with
    |false=>trivial
    |true =>
     simp only[cond_true];split
     ·rename_i ys Z;refine Rd.castSh (m:=false) (m':=false) (E:=E) (E':=E') Z (Rd.mono (λk H=>?_) (OwH.rd (m:=false) (E':=E') h));rcases H with H|H
      ·exact I p q y k H
      ·exact .inl (a6 k H)
     ·trivial
  |_=>simp only[bt];trivial
 |rp p =>
  cases M with
  |rpp q a x =>
   simp only[bt];cases y:(!q||p) with
   |false=>trivial
   |true =>
    obtain⟨b,ob,g,o',c,X,ad,a1,hg,hr,Z⟩:=h;exact⟨b,ob,g,o',c,X,ad.imp (z b) id,a1,hg.imp (z g) id,Rd.mono (I p q y) hr,Z⟩
  |rp q a x off =>
   simp only[bt];cases y:(!q||p) with
   |false=>trivial
   |true =>
    obtain⟨g,o',c,X,hg,hr,Z⟩:=h;exact⟨g,o',c,X,hg.imp (z g) id,Rd.mono (I p q y) hr,Z⟩
  |_=>simp only[bt];trivial
open Classical in
theorem vj (_hV:ax V){a:Act}{w:World}(h:Rel P V st a w)(live:List (Nat×List Coe))(a6:∀ x∈V.fixb,x.1∈live.map (·.1)):Rel P V (lO live st) a w:=by
 obtain⟨W,h⟩:=h;have J:=AA (st:=st) live;have X:∀ b,Go.Proofs.YtadlacffdemoiaaGreatEv.live (lO live st) b->Go.Proofs.YtadlacffdemoiaaGreatEv.live st b:=by
  rintro b ⟨z,I⟩;rcases J b with ⟨e,_⟩|⟨cs,e,_⟩
  ·rw[e]at I;cases I
  ·rw[e]at I;exact⟨z,I⟩
 have a2:∀ (q j:Nat) (l:Leaf),(lO live st q).ls[j]?=some l->q∈live.map (·.1)/\∃ r,(st q).ls[j]?=some r/\(l=.dead\/∃ c,l=bt st (live.map (·.1)) c r):=by
  intro q j l Y;rcases J q with ⟨e,_⟩|⟨cs,e,y⟩
  ·rw[e]at Y;simp[bS.none]at Y
  ·rw[e]at Y;exact⟨y,ph _ _ _ _ _ Y⟩
 have b5:∀ (q j:Nat) (l:Leaf),(lO live st q).ls[j]?=some l->ao l->∃ r,(st q).ls[j]?=some r/\(ao r\/r=.nil):=by
  intro q j l Y ho;obtain⟨_,r,z,I⟩:=a2 q j l Y;rcases I with rfl|⟨c,rfl⟩
  ·exact ho.elim
  ·exact⟨r,z,xY ho⟩
 have a0:∀ b,(live.map (·.1)).any (BJ b)=true->b∈live.map (·.1):=λb O=>by
  rw[CQ]at O;obtain⟨x,hx,he⟩:=O;rw[BH he];exact hx
 let H:Nat->Nat->List Nat:=λq j=>if (∃ r,(st q).ls[j]?=some r/\ao r) then W.bs q j else []
 let a1:Nat->Prop:=λk=>W.nw k\/∃ q j r l,(st q).ls[j]?=some r/\ao r/\(lO live st q).ls[j]?=some l/\¬ ao l/\k∈W.bs q j
 have Z:∀ (q j k:Nat),k∈H q j->(∃ r,(st q).ls[j]?=some r/\ao r)/\k∈W.bs q j:=by
  intro q j k M;by_cases hc:∃ r,(st q).ls[j]?=some r/\ao r
  ·simp only[H,if_pos hc]at M;exact⟨hc,M⟩
  ·simp only[H,if_neg hc]at M;simp at M
 refine⟨{ β:=W.β,cs:=λq=>if q∈live.map (·.1) then W.cs q else [],bs:=H,nw:=a1 },?_⟩
 exact {
  nt:=h.nt,df:=h.df
  slots:=λt ht=>by
   rcases J t with ⟨e,y⟩|⟨cs,e,y⟩
   ·rw[e];simp[y,bS.none,d9]
   ·rw[e];simp only[y,if_true];exact h.slots t ht
  boxes:=λb O=>by
   rcases J b with ⟨e,y⟩|⟨cs,e,y⟩
   ·rw[e];exact .inl ⟨rfl,rfl⟩
   ·rw[e];rcases h.boxes b O with ⟨z,I⟩|⟨z,E,I⟩
    ·exact .inl ⟨z,by rw[I];exact List.eq_nil_of_length_eq_zero (by rw[kM];rfl)⟩
    ·exact .inr ⟨z,E,by simp only[y,if_true];exact I⟩
  len:=λq=>by
   rcases J q with ⟨e,y⟩|⟨cs,e,y⟩
   ·rw[e];simp[y,bS.none]
   ·rw[e];simp only[y,if_true,kM];exact h.len q
  one:=λq u hu=>by
   by_cases y:q∈live.map (·.1)
   ·simp only[y,if_true]at hu;exact h.one q u hu
   ·simp only[y,if_false]at hu;simp at hu
  leaf:=λq j l v Y hv=>by
   obtain⟨y,r,z,I⟩:=a2 q j l Y;simp only[y,if_true]at hv;have a4:=h.leaf q j r v z hv;rcases I with rfl|⟨c,rfl⟩
   ·trivial
   ·refine wD (st:=st) (W:=W) (W':={ β:=W.β,cs:=λq=>if q∈live.map (·.1) then W.cs q else [],bs:=H,nw:=a1 }) (keys:=live.map (·.1)) a4 (λk M=>Or.inl M) rfl (λq hq=>if_pos (a0 q hq)) ?_ ?_ ?_ ?_
    ·intro b O ad;have a3:=a0 b O;rcases J b with ⟨_,a9⟩|⟨cs,e,_⟩
     ·exact absurd a3 a9
     ·rw[e];exact ad
    ·intro ho;show H q j=_;simp only[H,if_pos (⟨r,z,ho⟩:∃ r,(st q).ls[j]?=some r/\ao r)]
    ·intro e;show H q j=_;have hc:¬ ∃ r,(st q).ls[j]?=some r/\ao r:=by
      rintro⟨l1,h3,h4⟩;rw[z,e]at h3;cases h3;exact h4.elim
     simp only[H,if_neg hc]
    ·intro ho hn _ k M;exact .inr ⟨q,j,r,_,z,ho,Y,hn,M⟩
  ownb:=λq j l Y ho k M=>by
   obtain⟨⟨r,z,I⟩,h3⟩:=Z q j k M;obtain⟨q1,q2,q3⟩:=h.ownb q j r z I k h3;refine⟨?_,q2,λb O=>q3 b (X b O)⟩;rintro (hn|⟨q',j',l1,l2,h4,h5,h6,h7,h8⟩)
   ·exact q1 hn
   ·obtain⟨rfl,rfl⟩:=h.sep q j r q' j' l1 z I h4 h5 k h3 h8;rw[Y]at h6;cases h6;exact h7 ho
  sep:=λq j l q' j' l' _ _ _ _ k M a5=>by
   obtain⟨⟨r,z,I⟩,h3⟩:=Z q j k M;obtain⟨⟨b4,b0,b1⟩,b3⟩:=Z q' j' k a5;exact h.sep q j r q' j' b4 z I b0 b1 k h3 b3
  box:=λb O=>by
   obtain⟨q1,q2⟩:=h.box b (X b O);refine⟨?_,q2⟩;rintro (hn|⟨q',j',l1,l2,h4,h5,h6,h7,h8⟩)
   ·exact q1 hn
   ·exact (h.ownb q' j' l1 h4 h5 _ h8).2.2 b (X b O) rfl
  inj:=λb b' O b2=>h.inj b b' (X b O) (X b' b2)
  nwlt:=λk M=>by
   rcases M with hn|⟨q',j',l1,l2,h4,h5,h6,h7,h8⟩
   ·exact h.nwlt k hn
   ·exact⟨h.own_lt h4 h5 k h8,(h.ownb q' j' l1 h4 h5 k h8).2.1⟩
  os:=h.os,tape:=h.tape,output:=h.output,size:=h.size,keep:=h.keep
  fixb:=λx hx=>by
   obtain⟨⟨z,I⟩,h3⟩:=h.fixb x hx;refine⟨⟨z,?_⟩,h3⟩;rcases J x.1 with ⟨_,y⟩|⟨cs,e,_⟩
   ·exact absurd (a6 x hx) y
   ·rw[e];exact I
  fixt:=h.fixt }
def exOf:Ex->Exit
 |.normal=>.normal
 |.exit id=>.exit id
 |.ret=>.ret
theorem mw {nt:Nat}{fix:List Nat}(u:V.nt=nt)(r:∀ x∈V.fixt,x.1∈fix)(h:lr nt fix all o=true):bM V o:=by
 intro d H;simp only[lr,H,BC,CE,Ca]at h;obtain⟨⟨I,y⟩,_⟩:=h;refine⟨by rw[u];simpa[CM]using I,λx z e=>?_⟩;exact y _ (r x z) (by simp[e])
end
section
variable {P:Program} {V:Env} {Γ:List Ctr} {T:TypeId->TI} {R:Type}
open Classical in
theorem tM {Q:Exit->Act->World->Prop}{a:Act}{w:World}{c:Code}(J:Nat->Act->World->Prop)(h0:∃ n,J n a w)(hz:∀ a w,¬ J 0 a w)
  (u:∀ n a w,J (n+1) a w->c.wp P (Exit.then (J n) Q) a w):(Code.loop c).wp P Q a w:=by
 have y:∀ (a:Act) (w:World) (n:Nat),J n a w->∃ m,J m a w/\m<=n/\∀ k,J k a w->m<=k:=by
  intro a w n;induction n using C8 with
  |ind n ih =>
   intro z;by_cases h:∃ k,k<n/\J k a w
   ·obtain⟨k,I,hJ⟩:=h;obtain⟨m,r,O,M⟩:=ih k I hJ;exact⟨m,r,by omega,M⟩
   ·refine⟨n,z,Ck _,λk I=>?_⟩;apply B5;intro a0;exact h ⟨k,by omega,I⟩
 let H:Act->World->Nat:=λa w=>if h:∃ m,J m a w/\∀ k,J k a w->m<=k then h.choose else 0
 have hμ:∀ a w n,J n a w->J (H a w) a w/\H a w<=n:=by
  intro a w n z;obtain⟨m,r,_,M⟩:=y a w n z;have h:∃ m,J m a w/\∀ k,J k a w->m<=k:=⟨m,r,M⟩;have e:H a w=h.choose:=by simp only[H];rw[dif_pos h]
  rw[e];exact⟨h.choose_spec.1,h.choose_spec.2 n z⟩
 refine wp_loop (λa w=>∃ n,J n a w) H h0 λa w ⟨n,z⟩=>?_
 obtain⟨r,_⟩:=hμ a w n z;cases X:H a w with
 |zero=>rw[X]at r;exact absurd r (hz a w)
 |succ m =>
  rw[X]at r;refine wp_mono (u m a w r) λe Y Z he=>?_
  cases e with
  |normal =>
   have O:J m Y Z:=he;exact⟨⟨m,O⟩,Nat.lt_succ_of_le (hμ Y Z m O).2⟩
  |_=>exact he
theorem zk {st:St}{a:Act}{w:World}(u:Rel P V st a w){t:Nat}(y:t<GH){b:Bool}(I:(st t).sh=.one)(z:(st t).ls=[.bool b]):a.eval (.tmp t)=.bool b:=by
 obtain⟨W,u⟩:=u;have r:=u.slots t y;rw[I]at r;have r:W.cs t=[a.tmps.getD t undef]:=r;have H:=u.leaf t 0 (.bool b) (a.tmps.getD t undef) (by rw[z];rfl) (by rw[r];rfl);exact H
theorem si (hV:ax V)(hT:TOk P T)(hΓ:∀ c∈Γ,bP P c)(a3:P.follows .mixedOrders=true){fx:List Nat}(a5:∀ x∈V.fixb,x.1∈fx){nt:Nat}{fix:List Nat}(a1:V.nt=nt)(a4:∀ x∈V.fixt,x.1∈fix)
  {L:List (Nat×List (Nat×List Coe))} {O:Nat}:∀ (c:Code),dO nt fix c=true->dp L fx c=true->∀ (st:St) (I:Ex->St->Option R) (r:R) (Q:Exit->Act->World->Prop),evK Γ T L O c st I=some r ->
   (∀ ex J,I ex J=some r->∀ a w,Rel P V J a w->Q (exOf ex) a w)->∀ a w,Rel P V st a w->c.wp P Q a w:=by
 intro c;induction c with
 |skip=>exact λ_ _ st I r Q h z a w u=>wp_skip (z .normal st h a w u)
 |region id a2 a6 =>
  intro hc hlp st I r Q h z a w u;simp only[dO,BX]at hc;have a0:∀ (i:Nat) (o:Oper),a2[i]?=some o->lr nt fix a2 o=true:=λi o hi=>hc o (by simpa using Ci hi)
  refine Br hV hT hΓ a3 (λi o hi=>mw a1 a4 (a0 i o hi)) (λi o hi j a9 hg s hs=>?_) h (λJ H a w u=>z .normal J H a w u) u;have:=a0 i o hi;simp only[lr,hg,hs,BC]at this;rw[a1];simpa[CM]using this.2
 |seq x y Y Z =>
  intro hc hlp st I r Q h z a w u;simp only[dO,BC]at hc;simp only[dp,BC]at hlp;simp only[evK]at h;refine wp_seq (Y hc.1 hlp.1 st _ r _ h (λex J H a w u=>?_) a w u);cases ex with
  |normal=>exact Z hc.2 hlp.2 J I r Q H z a w u
  |exit id=>exact z (.exit id) J H a w u
  |ret=>exact z .ret J H a w u
 |cond t x y Y Z =>
  intro hc hlp st I r Q h z a w u;simp only[dO,BC]at hc;simp only[dp,BC]at hlp;simp only[evK]at h;unfold zr at h;split at h
  ·rename_i t;split at h
   ·rename_i b H h2;have hv:=zk u (Cu (by have:=hc.1.1;simp only[wI,CM]at this;rw[a1];exact this) hV.nt) H h2;cases b with
    |true =>
     simp only[cond_true]at h;rw[pf H h2]at h;exact wp_cond_true hv (Y hc.1.2 hlp.1 st I r Q h z a w u)
    |false =>
     simp only[cond_false]at h;rw[pf H h2]at h;exact wp_cond_false hv (Z hc.2 hlp.2 st I r Q h z a w u)
   ·cases h
  ·rename_i b;cases b with
   |true=>exact wp_cond_true rfl (Y hc.1.2 hlp.1 st I r Q h z a w u)
   |false=>exact wp_cond_false rfl (Z hc.2 hlp.2 st I r Q h z a w u)
  ·cases h
 |block id c ih =>
  intro hc hlp st I r Q h z a w u;simp only[dO]at hc;simp only[dp]at hlp;simp only[evK]at h;refine wp_block (ih hc hlp st _ r _ h (λex J H a w u=>?_) a w u);cases ex with
  |normal=>exact z .normal J H a w u
  |exit M =>
   simp only[sm]at H;show if M=id then Q .normal a w else Q (.exit M) a w
   by_cases e:M=id
   ·rw[if_pos e];subst e;simp only[Nat.beq_refl,cond_true]at H;exact z .normal J H a w u
   ·rw[if_neg e];have hb:BJ M id=false:=by
     cases hb:BJ M id with
     |false=>rfl
     |true=>exact absurd (BH hb) e
    rw[hb]at H;exact z (.exit M) J H a w u
  |ret=>exact z .ret J H a w u
 |loop c ih =>
  intro hc hlp st I r Q h z a w u;simp only[dO]at hc;simp only[dp,BC,BX]at hlp;simp only[evK]at h;have X:∀ x∈V.fixb,x.1∈(lq L (eM c)).map (·.1):=λx hx=>by
   obtain⟨r,u,he⟩:=CQ.1 (hlp.1 x.1 (a5 x hx));exact BL.2 ⟨r,u,BH he⟩
  refine tM (λn a w=>∃ st,aT (lq L (eM c)) (evK Γ T L O c) n st I=some r/\Rel P V st a w) ⟨O,_,h,vj hV u _ X⟩ ?_ ?_
  ·rintro a w ⟨st,H,_⟩;cases H
  ·rintro n a w ⟨st,H,u⟩;simp only[aT]at H;refine ih hc hlp.2 st _ r _ H (λex J h2 a w u=>?_) a w u;cases ex with
   |normal=>exact⟨_,h2,vj hV u _ X⟩
   |exit id=>exact z (.exit id) J h2 a w u
   |ret=>exact z .ret J h2 a w u
 |exit id=>exact λ_ _ st I r Q h z a w u=>wp_exit (z (.exit id) st h a w u)
 |ret=>exact λ_ _ st I r Q h z a w u=>wp_ret (z .ret st h a w u)
 |_=>intro _ _ st I r Q h;simp[evK]at h
end
section
variable {P:Program} {Γ:List Ctr} {T:TypeId->TI} {R:Type} {w:World} {ro pr:Nat->Prop}
theorem iY {G:Nat->Prop}{p:Bool}:∀ {b:Ty} {h:Option Nat} {pos:Nat} {x:b.den} {cs:List Value} {bs:List Nat},Mx w G b h pos x cs bs->bs.Nodup ->
  ∃ a2:Nat->List Nat,
   (∀ (V:Env) (W:Wit) (st:St),(∀ k,G k->gd V W p k)->∀ (j:Nat) (l:Leaf) (u:Value),h≠some (pos+j)->(aq p b x)[j]?=some l->cs[j]?=some u->aK P V W st w (a2 j) l u) /\
   (∀ (j:Nat) (l:Leaf),h≠some (pos+j)->(aq p b x)[j]?=some l->ao l->∀ k∈a2 j,k∈bs) /\
   (∀ (j J:Nat) (l l':Leaf),h≠some (pos+j)->h≠some (pos+J)->(aq p b x)[j]?=some l->ao l->(aq p b x)[J]?=some l'->ao l'->∀ k,k∈a2 j->k∈a2 J->j=J)
 |.int k,_,_,x,cs,bs,H,_=>by
  obtain⟨rfl,rfl⟩:=H;exact⟨λ_=>[],λV W st _ j l u _ y X=>by cases j with|zero=>simp[aq]at y X;subst y;subst X;rfl|succ j=>simp[aq]at y,λj l _ y _ k r=>by simp at r,λj J l l' _ _ _ _ _ _ k r=>by simp at r⟩
 |.bool,_,_,x,cs,bs,H,_=>by
  obtain⟨rfl,rfl⟩:=H;exact⟨λ_=>[],λV W st _ j l u _ y X=>by cases j with|zero=>simp[aq]at y X;subst y;subst X;rfl|succ j=>simp[aq]at y,λj l _ y _ k r=>by simp at r,λj J l l' _ _ _ _ _ _ k r=>by simp at r⟩
 |.str,_,_,x,cs,bs,H,_=>by
  obtain⟨rfl,rfl⟩:=H;exact⟨λ_=>[],λV W st _ j l u _ y X=>by cases j with|zero=>simp[aq]at y X;subst y;subst X;rfl|succ j=>simp[aq]at y,λj l _ y _ k r=>by simp at r,λj J l l' _ _ _ _ _ _ k r=>by simp at r⟩
 |.unit,_,_,x,cs,bs,H,_=>by
  obtain⟨rfl,rfl⟩:=H;exact⟨λ_=>[],λV W st _ j l u _ y X=>by simp[aq]at y,λj l _ y _ k r=>by simp at r,λj J l l' _ _ _ _ _ _ k r=>by simp at r⟩
 |.hdr,_,_,x,cs,bs,H,_=>by
  obtain⟨⟨A,a9,rfl⟩,rfl⟩:=H;exact⟨λ_=>[],λV W st _ j l u _ y X=>by cases j with|zero=>simp[aq]at y X;subst y;subst X;exact⟨A,a9,rfl⟩|succ j=>simp[aq]at y,λj l _ y _ k r=>by simp at r,λj J l l' _ _ _ _ _ _ k r=>by simp at r⟩
 |.pair b c,h,pos,x,cs,bs,⟨c1,c2,b1,b2,e1,e2,y,X⟩,Z=>by
  subst e1;subst e2;rw[CH]at Z;obtain⟨d1,f2,f3,f4⟩:=iY y Z.1;obtain⟨d2,g2,g3,g4⟩:=iY X Z.2.1;have ad:=cK p b x.1;have b0:=y.len;have I:∀ (j:Nat) (l:Leaf),(aq p b x.1++aq p c x.2)[j]?=some l->(j<b.cells/\(aq p b x.1)[j]?=some l)\/(b.cells<=j/\(aq p c x.2)[j-b.cells]?=some l):=by
   intro j l z;by_cases M:j<b.cells
   ·rw[B4 (by omega)]at z;exact .inl ⟨M,z⟩
   ·rw[BZ (by omega),ad]at z;exact .inr ⟨by omega,z⟩
  have a1:∀ j,b.cells<=j->h≠some (pos+j)->h≠some (pos+b.cells+(j-b.cells)):=λj z hh=>by rwa [show pos+b.cells+(j-b.cells)=pos+j by omega]
  refine⟨λj=>if j<b.cells then d1 j else d2 (j-b.cells),λV W st hG j l u hh z hu=>?_,λj l hh z ho k r=>?_,λj J l l' hh a3 z ho Y a4 k r O=>?_⟩
  ·rcases I j l z with ⟨M,z⟩|⟨a0,z⟩
   ·rw[B4 (by omega)]at hu;simp only[if_pos M];exact f2 V W st hG j l u hh z hu
   ·rw[BZ (by omega),b0]at hu;simp only[if_neg (show ¬ j<b.cells by omega)];exact g2 V W st hG _ l u (a1 j a0 hh) z hu
  ·rcases I j l z with ⟨M,z⟩|⟨a0,z⟩
   ·simp only[if_pos M]at r;exact BD _ (f3 j l hh z ho k r)
   ·simp only[if_neg (show ¬ j<b.cells by omega)]at r;exact BE _ (g3 _ l (a1 j a0 hh) z ho k r)
  ·rcases I j l z with ⟨M,z⟩|⟨a0,z⟩ <;> rcases I J l' Y with ⟨a5,Y⟩|⟨a6,Y⟩
   ·simp only[if_pos M]at r;simp only[if_pos a5]at O;exact f4 j J l l' hh a3 z ho Y a4 k r O
   ·simp only[if_pos M]at r;simp only[if_neg (show ¬ J<b.cells by omega)]at O;exact absurd rfl (Z.2.2 k (f3 j l hh z ho k r) k (g3 _ l' (a1 J a6 a3) Y a4 k O))
   ·simp only[if_neg (show ¬ j<b.cells by omega)]at r;simp only[if_pos a5]at O;exact absurd rfl (Z.2.2 k (f3 J l' a3 Y a4 k O) k (g3 _ l (a1 j a0 hh) z ho k r))
   ·simp only[if_neg (show ¬ j<b.cells by omega)]at r;simp only[if_neg (show ¬ J<b.cells by omega)]at O;have:=g4 _ _ l l' (a1 j a0 hh) (a1 J a6 a3) z ho Y a4 k r O;omega
 |.list m E e,h,pos,xs,cs,bs,H,Z=>by
  cases m with
  |false =>
   rw[cn]at H;obtain⟨rfl,A,a9,rfl,X,h3⟩:=H;refine⟨λ_=>[],λV W st hG j l u _ y h4=>?_,λj l _ y _ k r=>by simp at r,λj J l l' _ _ _ _ _ _ k r=>by simp at r⟩;cases j with
   |zero =>
    simp[aq]at y h4;subst y;subst h4;exact Rd.mono hG (⟨A,a9,rfl,X,h3⟩:Rd w G (.list false E e) xs _)
   |succ j=>simp[aq]at y
  |true =>
   refine⟨λ_=>bs,λV W st hG j l u hh y h4=>?_,λj l _ y _ k r=>r,λj J l l' _ _ y _ h3 _ k _ _=>?_⟩
   ·cases j with
    |zero =>
     rw[Nat.add_zero]at hh;rw[bI hh]at H;obtain⟨v,rfl,hO⟩:=H;simp[aq]at y h4;subst y;subst h4;exact⟨Z,OwB.shy (hO.carry hG (λ_ _=>rfl) (λ_ _=>rfl))⟩
    |succ j=>simp[aq]at y
   ·have h7:j<1:=by simpa[aq]using (BK.1 y).1
    have h8:J<1:=by simpa[aq]using (BK.1 h3).1
    omega
theorem my {p:Bool}{off:Nat}:∀ {a:Ty} {pos:Nat} {x:a.den} {E:TypeId} {e:Ty} {xs:List e.den},bc off a pos x=some ⟨E,e,xs⟩->(aq p a x)[off-pos]?=some (.own (p&&e.shy) none E e xs)
 |.pair a b,pos,x,E,e,xs,h=>by
  have H:=cK p a x.1;simp only[bc]at h;simp only[aq];split at h
  ·rename_i u z;simp only[BA]at h;subst h;have y:=gy z;rw[B4 (by omega)];exact my z
  ·have y:=gy h;rw[BZ (by omega),H,show off-pos-a.cells=off-(pos+a.cells) by omega];exact my h
 |.list m J M,pos,I,E,e,xs,h=>by
  simp only[bc]at h;cases r:m&&BJ pos off with
  |false=>simp[r]at h
  |true =>
   rw[r]at h;simp only[cond_true,BA,Sigma.mk.injEq]at h;obtain⟨rfl,h⟩:=h;simp only[BC]at r;obtain⟨rfl,r⟩:=r;have r:=BH r;subst r;rw[heq_eq_eq,Sigma.mk.injEq]at h;obtain⟨rfl,h⟩:=h;rw[heq_eq_eq]at h;subst h;simp[aq]
 |.int _,_,_,_,_,_,h=>by simp[bc]at h
 |.bool,_,_,_,_,_,h=>by simp[bc]at h
 |.str,_,_,_,_,_,h=>by simp[bc]at h
 |.unit,_,_,_,_,_,h=>by simp[bc]at h
 |.hdr,_,_,_,_,_,h=>by simp[bc]at h
theorem tN (V:Env)(W:Wit)(I:V.ro0=ro)(r:V.prot=pr):∀ {cs:List (Bool×Ty)} {x:lJ cs} {us:List Value},jA w ro pr cs x us->us.length=(jO true cs x).length /\
  ∀ (i:Nat) (c:Bool×Bool×(a:Ty)×a.den) (u:Value),(jO true cs x)[i]?=some c->us[i]?=some u->iK V W w c u
 |[],_,us,h=>by
  have h:us=[]:=h;subst h;exact⟨rfl,λi c u z _=>by simp[jO]at z⟩
 |c::cs,x,us,⟨u,a0,e,z,h2⟩=>by
  subst e;obtain⟨i1,i2⟩:=tN V W I r h2;refine⟨by simp[jO,i1],λi c' u' Z h4=>?_⟩;cases i with
  |succ i=>exact i2 i c' u' (by simpa[jO]using Z) (by simpa using h4)
  |zero =>
   simp[jO]at Z h4;subst Z;subst h4;have hG:∀ k,ro k->gd V W true k:=λk hk=>.inr ⟨rfl,by rw[I];exact hk⟩
   unfold iK;unfold gO at z;split at z
   ·rename_i H;simp only[H,if_true];obtain⟨b,ob,g,o,c2,J,X,y,M,O,Y⟩:=z;exact⟨b,ob,g,o,c2,J,.inr (by rw[r];exact X),y,.inr (by rw[r];exact M),O.mono hG,Y⟩
   ·rename_i H;have H:c.1=false:=by simpa using H
    simp only[H,CU,if_false];obtain⟨g,o,c2,J,M,O,Y⟩:=z;exact⟨g,o,c2,by rw[J];rfl,.inr (by rw[r];exact M),O.mono hG,Y⟩
structure Ent where
 r:Nat
 c:bS
 cs:List Value
 bs:Nat->List Nat
 bl:List Nat
 g:Nat
structure qi (P:Program) (w:World) (ro pr:Nat->Prop) (bx:List (Nat×Nat)) (e:Ent):Prop where
 len:e.c.ls.length=e.cs.length
 one:∀ u∈e.cs,u.oneCell'=true
 leaf:∀ (V:Env) (W:Wit) (st:St),V.w0=w->V.ro0=ro->V.prot=pr->(∀ z∈bx,B0<=z.1/\(st z.1).sh=.agg/\W.β z.1=z.2)->∀ (j:Nat) (l:Leaf) (u:Value),e.c.ls[j]?=some l->e.cs[j]?=some u->aK P V W st w (e.bs j) l u
 own:∀ (j:Nat) (l:Leaf),e.c.ls[j]?=some l->ao l->∀ k∈e.bs j,k∈e.bl
 sep:∀ (j j':Nat) (l l':Leaf),e.c.ls[j]?=some l->ao l->e.c.ls[j']?=some l'->ao l'->∀ k,k∈e.bs j->k∈e.bs j'->j=j'
 box:B0<=e.r->e.c.sh=.agg/\e.g∈e.bl/\(∀ (j:Nat) (l:Leaf),e.c.ls[j]?=some l->ao l->e.g∉e.bs j)/\(∃ E,w.heap[e.g]?=some (.cells e.cs.toArray E (0,0)))/\(e.r,e.g)∈bx
theorem qi.mono {y r:List (Nat×Nat)}{e:Ent}(h:qi P w ro pr y e)(u:∀ z∈y,z∈r):qi P w ro pr r e :=
  { len:=h.len,one:=h.one,own:=h.own,sep:=h.sep
    leaf:=λV W st H h2 Z h4=>h.leaf V W st H h2 Z (λz I=>h4 z (u z I))
    box:=λM=>by obtain⟨Y,X,J,q4,O⟩:=h.box M;exact⟨Y,X,J,q4,u _ O⟩ }
structure wE (P:Program) (w:World) (ro pr:Nat->Prop) (t:Nat) (pk:PK) (v:Value) (b:List Nat) (bx:List (Nat×Nat)) (es:List Ent):Prop where
 bl:es.flatMap (·.bl)=b
 ok:∀ e∈es,qi P w ro pr bx e
 at_:∀ e∈es,e.r=t\/e.r=B0+t
 nod:(es.map (·.r)).Nodup
 slot:∃ e∈es,e.r=t/\d9 e.c.sh v e.cs
 bxs:∀ z∈bx,z.1=B0+t/\(∃ e∈es,e.r=B0+t/\e.g=z.2)
theorem tO (t n:Nat){a:Ty}{x:a.den}{v:Value}{cs:List Value}{b:List Nat}(O:b.Nodup)(h1:db a.isAgg v cs)(M:Mx w ro a none 0 x cs b)(a0:t<B0) :
    ∃ X,wE P w ro pr t (.own a) v b [] X/\[((t,⟨n,bg a.isAgg,aq true a x⟩):Nat×bS)]=X.map (λe=>(e.r,e.c)):=by
  obtain⟨I,m1,m2,m3⟩:=iY (P:=P) (p:=true) M O;have H:∀ j,(none:Option Nat)≠some (0+j):=λj=>by simp
  refine⟨[⟨t,⟨n,bg a.isAgg,aq true a x⟩,cs,I,b,0⟩],⟨by simp,?_,by simp,by simp,⟨_,BV _,rfl,j0 h1⟩,by simp⟩,rfl⟩;intro e Z;simp only[CA]at Z;subst Z
  exact { len := by show (aq true a x).length = _; rw [cK, M.len]
          one:=M.one
          leaf:=λV W st _ J _ _ j l u z y=>m1 V W st (λk hk=>.inr ⟨rfl,by rw[J];exact hk⟩) j l u (H j) z y
          own:=λj l z y=>m2 j l (H j) z y
          sep:=λj Y l l' z y h5 h6=>m3 j Y l l' (H j) (H Y) z y h5 h6
          box:=λhr=>absurd hr (by show ¬ B0<=t;omega) }
theorem nX (t:Nat){l:Leaf}{v:Value}{pk:PK}(a0:t<B0)(I:¬ ao l)(h1:v.oneCell'=true)(y:∀ (V:Env) (W:Wit) (st:St),V.w0=w->V.ro0=ro->V.prot=pr->aK P V W st w [] l v) :
    ∃ Z,wE P w ro pr t pk v [] [] Z/\[((t,⟨0,.one,[l]⟩):Nat×bS)]=Z.map (λe=>(e.r,e.c)):=by
  refine⟨[⟨t,⟨0,.one,[l]⟩,[v],λ_=>[],[],0⟩],⟨by simp,?_,by simp,by simp,⟨_,BV _,rfl,rfl⟩,by simp⟩,rfl⟩;intro e he;simp only[CA]at he;subst he;have M:∀ (j:Nat) (z:Leaf),[l][j]?=some z->j=0/\z=l:=λj z Y=>by
    cases j with
    |zero=>simp at Y;exact⟨rfl,Y.symm⟩
    |succ j=>simp at Y
  exact { len := rfl
          one:=λu hu=>by simp at hu;subst hu;exact h1
          leaf:=λV W st hw X O _ j z u J H=>by
            obtain⟨rfl,rfl⟩:=M j z J;simp at H;subst H;exact y V W st hw X O
          own:=λj z J H=>by obtain⟨_,rfl⟩:=M j z J;exact absurd H I
          sep:=λj j' l1 l2 J H=>by obtain⟨_,rfl⟩:=M j l1 J;exact absurd H I
          box:=λhr=>absurd hr (by show ¬ B0<=t;omega) }
def tP:Value->Nat
 |.pointer (some a)=>a.block
 |_=>0
def d6 (t:Nat):List PK->List Value->List (Nat×Nat)
 |.iop _::r,v::u=>(B0+t,tP v)::d6 (t+1) r u
 |_::r,_::u=>d6 (t+1) r u
 |_,_=>[]
def d7 (t:Nat):List PK->List Value->List (Nat×Value)
 |.io _::r,v::u=>(t,v)::d7 (t+1) r u
 |.iop _::r,v::u=>(t,v)::d7 (t+1) r u
 |_::r,_::u=>d7 (t+1) r u
 |_,_=>[]
def PK.bx (t:Nat)(v:Value):PK->List (Nat×Nat)
 |.iop _=>[(B0+t,tP v)]
 |_=>[]
theorem Bs (t:Nat)(a1:t<B0){pk:PK}{ps:List PK}{x:ab (pk::ps)}{v:Value}{b:List Nat}(a0:b.Nodup)(h:nU P w ro pr pk x.1 v b) :
    ∃ es,wE P w ro pr t pk v b (pk.bx t v) es/\dj t (pk::ps) x=es.map (λe=>(e.r,e.c))++dj (t+1) ps x.2:=by
  cases pk with
  |rd a =>
    obtain⟨rfl,cs,h1,h2⟩:=h;refine⟨[⟨t,⟨0,bg a.isAgg,cL true a x.1⟩,cs,λ_=>[],[],0⟩],⟨by simp,?_,by simp,by simp,⟨_,BV _,rfl,j0 h1⟩,by simp[PK.bx]⟩,rfl⟩;intro e he;simp only[CA]at he;subst he;have b5:∀ (V:Env) (W:Wit) (st:St),V.ro0=ro->aC P V W st w (cL true a x.1) cs:=λV W st I=>eS (G:=ro) (λk J=>.inr ⟨rfl,by rw[I];exact J⟩) h2
    have b9:∀ (j:Nat) (l:Leaf),(cL true a x.1)[j]?=some l->¬ ao l:=λj l M=>by
      have hl:=gK true a x.1;have hc:=h2.len;have c1:=(BK.1 M).1;exact ((b5 ⟨w,ro,[],0,[],[]⟩ ⟨λ_=>0,λ_=>[],λ_ _=>[],λ_=>False⟩ (λ_=>bS.none) rfl).at_ j l _ M (BR (by omega))).2.1
    exact { len := by show (cL true a x.1).length = _; rw [gK, h2.len]
            one:=h2.one
            leaf:=λV W st _ I _ _ j l u y H=>((b5 V W st I).at_ j l u y H).1
            own:=λj l y H=>absurd H (b9 j l y)
            sep:=λj j' l l' y H=>absurd H (b9 j l y)
            box:=λhr=>absurd hr (by show ¬ B0<=t;omega) }
  |own a =>
    obtain⟨cs,h1,h2⟩:=h;obtain⟨es,y,H⟩:=tO (P:=P) (pr:=pr) t 0 a0 h1 h2 a1;exact⟨es,⟨y.bl,y.ok,y.at_,y.nod,y.slot,y.bxs⟩,by rw[<- H];rfl⟩
  |io a =>
    obtain⟨cs,h1,h2⟩:=h;obtain⟨es,y,H⟩:=tO (P:=P) (pr:=pr) t 7 a0 h1 h2 a1;exact⟨es,⟨y.bl,y.ok,y.at_,y.nod,y.slot,y.bxs⟩,by rw[<- H];rfl⟩
  |rref a =>
    obtain⟨rfl,h⟩:=h;unfold gO at h;rw[if_neg (by simp)]at h;obtain⟨g,o,c,hv,hg,hr,hc⟩:=h;subst hv;obtain⟨es,y,H⟩:=nX (P:=P) (w:=w) (ro:=ro) (pr:=pr) t (pk:=.rref a) (l:=.rp true a x.1 0) (v:=.pointer (some ⟨g,o,none⟩)) a1 id rfl (λV W st hw I X=>⟨g,o,c,rfl,.inr (by rw[X];exact hg),hr.mono (λk J=>.inr ⟨rfl,by rw[I];exact J⟩),hc⟩);exact⟨es,y,by rw[<- H];rfl⟩
  |rref2 a =>
    obtain⟨rfl,h⟩:=h;unfold gO at h;rw[if_pos rfl]at h;obtain⟨b,ob,g,o,c,hv,hb,a5,hg,hr,hc⟩:=h;subst hv;obtain⟨es,y,H⟩:=nX (P:=P) (w:=w) (ro:=ro) (pr:=pr) t (pk:=.rref2 a) (l:=.rpp true a x.1) (v:=.pointer (some ⟨b,ob,none⟩)) a1 id rfl (λV W st hw I X=>⟨b,ob,g,o,c,rfl,.inr (by rw[X];exact hb),a5,.inr (by rw[X];exact hg),hr.mono (λk J=>.inr ⟨rfl,by rw[I];exact J⟩),hc⟩);exact⟨es,y,by rw[<- H];rfl⟩
  |fn As B =>
    obtain⟨rfl,h⟩:=h;have bn:v.oneCell'=true:=by
      obtain⟨f,c0,e,_⟩:=h;rw[e];rfl
    obtain⟨es,y,H⟩:=nX (P:=P) (w:=w) (ro:=ro) (pr:=pr) t (pk:=.fn As B) (l:=.fn As B x.1) (v:=v) a1 id bn (λV W st hw I X=>by
      show ia P V.w0 V.prot As B x.1 v;rw[hw,X];exact h)
    exact⟨es,y,by rw[<- H];rfl⟩
  |clo f cs =>
    obtain⟨rfl,us,e,h⟩:=h;subst e;obtain⟨es,y,H⟩:=nX (P:=P) (w:=w) (ro:=ro) (pr:=pr) t (pk:=.clo f cs) (l:=.clr f (jO true cs x.1)) (v:=.func (.func f) #[] us.toArray) a1 id rfl (λV W st hw I X=>by
      obtain⟨i1,i2⟩:=tN V W I X h;exact⟨us,rfl,i1,i2⟩)
    exact⟨es,y,by rw[<- H];rfl⟩
  |iop a =>
    obtain⟨g,c,E,b0,hv,hg,hm,rfl⟩:=h;subst hv;rw[CB]at a0;obtain⟨a6,m1,m2,m3⟩:=iY (P:=P) (p:=true) hm a0.2;have hn:∀ j,(none:Option Nat)≠some (0+j):=λj=>by simp
    have Y:t≠B0+t:=by simp[B0]
    refine⟨[⟨t,⟨0,.one,[.bp (B0+t) 0]⟩,[.pointer (some ⟨g,0,none⟩)],λ_=>[],[],0⟩,⟨B0+t,⟨0,.agg,aq true a x.1⟩,c,a6,g::b0,g⟩],
      ⟨by simp,?_,λe he=>by simp at he;rcases he with rfl|rfl <;> simp,by rw[BY,BY,DB,CB];exact⟨by simpa using Y,by simp⟩,⟨_,BG ..,rfl,rfl⟩,λz hz=>?_⟩,rfl⟩
    · intro e he
      simp only[BO,List.not_mem_nil,or_false]at he;rcases he with rfl|rfl
      · have h0:∀ (j:Nat) (l':Leaf),[Leaf.bp (B0+t) 0][j]?=some l'->j=0/\l'=.bp (B0+t) 0:=λj l' M=>by
          cases j with
          |zero=>simp at M;exact⟨rfl,M.symm⟩
          |succ j=>simp at M
        exact { len := rfl
                one:=λu hu=>by simp at hu;subst hu;rfl
                leaf:=λV W st hw I X hb j l' u y H=>by
                  obtain⟨rfl,rfl⟩:=h0 j l' y;simp at H;subst H;obtain⟨q1,q2,q3⟩:=hb (B0+t,g) (BV _);exact⟨q1,q2,by rw[q3]⟩
                own:=λj l' y H=>by obtain⟨_,rfl⟩:=h0 j l' y;exact H.elim
                sep:=λj j' l1 l2 y H=>by obtain⟨_,rfl⟩:=h0 j l1 y;exact H.elim
                box:=λhr=>absurd hr (by show ¬ B0<=t;omega) }
      · exact { len := by show (aq true a x.1).length = _; rw [cK, hm.len]
                one:=hm.one
                leaf:=λV W st _ I _ _ j l u y H=>m1 V W st (λk J=>.inr ⟨rfl,by rw[I];exact J⟩) j l u (hn j) y H
                own:=λj l y H k J=>BF _ (m2 j l (hn j) y H k J)
                sep:=λj j' l l' y H h5 h6=>m3 j j' l l' (hn j) (hn j') y H h5 h6
                box:=λ_=>⟨rfl,BG ..,λj l y H J=>a0.1 (m2 j l (hn j) y H g J),⟨E,hg⟩,BV _⟩ }
    · simp only[PK.bx,CA]at hz
      subst hz;exact⟨rfl,_,BF _ (BV _),rfl,rfl⟩
  |hol a c off =>
    obtain⟨cs,u,b0,b1,E,e,xs,h1,h2,y,H,h5,h6⟩:=h;have a2:=br.1 a0;have ba:b0.Nodup:=br.2 λk=>by have:=a2 k;have:=h6 k;omega
    have a9:b1.Nodup:=br.2 λk=>by have:=a2 k;have:=h6 k;omega
    have a4:∀ k,k∈b0->k∉b1:=λk J Z=>by
      have:=a2 k;have:=h6 k;have:=BW.2 J;have:=BW.2 Z;omega
    have b3:∀ k∈b0,k∈b:=λk J=>BW.1 (by have:=h6 k;have:=BW.2 J;omega)
    have b2:∀ k∈b1,k∈b:=λk J=>BW.1 (by have:=h6 k;have:=BW.2 J;omega)
    obtain⟨a6,m1,m2,m3⟩:=iY (P:=P) (p:=true) h2 ba;have Y:∀ j,j≠c->(some c:Option Nat)≠some (0+j):=λj M=>by simp;omega
    have b4:=my (p:=true) H;rw[Nat.sub_zero]at b4;have bb:(aq true a x.1.1).getD c .dead=.own (true&&e.shy) none E e xs:=by rw[BP,b4];rfl
    refine⟨[⟨t,⟨0,bg a.isAgg,aS (aq true a x.1.1) c (.own (true&&e.shy) (some (x.1.2,off)) E e xs)⟩,cs,λj=>if j=c then b1 else a6 j,b,0⟩],
      ⟨by simp,?_,by simp,by simp,⟨_,BV _,rfl,j0 h1⟩,by simp[PK.bx]⟩,?_⟩
    · intro en he
      simp only[CA]at he;subst he;have O:∀ (j:Nat) (l:Leaf),(aS (aq true a x.1.1) c (.own (true&&e.shy) (some (x.1.2,off)) E e xs))[j]?=some l->(j=c/\l=.own (true&&e.shy) (some (x.1.2,off)) E e xs)\/(j≠c/\(aq true a x.1.1)[j]?=some l):=by
        intro j l M;rcases aR _ _ _ _ _ M with ⟨q1,q2,_⟩|⟨q1,q2⟩
        · exact .inl ⟨q1,q2⟩
        · exact .inr ⟨q1,q2⟩
      exact { len := by show (aS (aq true a x.1.1) c _).length = _; simp only [aS, List.length_set]; rw [cK, h2.len]
              one:=h2.one
              leaf:=λV W st _ I _ _ j l u' h7 h8=>by
                have h8:cs[j]?=some u':=h8;rcases O j l h7 with ⟨rfl,rfl⟩|⟨M,h7⟩
                · rw[y]at h8
                  simp only[BA]at h8;subst h8;simp only[if_true];exact⟨a9,OwB.shy (p:=true) (h5.carry (λk J=>.inr ⟨rfl,by rw[I];exact J⟩) (λ_ _=>rfl) (λ_ _=>rfl))⟩
                · simp only[if_neg M]
                  exact m1 V W st (λk J=>.inr ⟨rfl,by rw[I];exact J⟩) j l u' (Y j M) h7 h8
              own:=λj l h7 h8 k J=>by
                rcases O j l h7 with ⟨rfl,rfl⟩|⟨M,h7⟩
                · simp only[if_true]at J;exact b2 k J
                · simp only[if_neg M]at J;exact b3 k (m2 j l (Y j M) h7 h8 k J)
              sep:=λj j' l l' h7 h8 h9 ad k J Z=>by
                rcases O j l h7 with ⟨rfl,rfl⟩|⟨M,h7⟩ <;> rcases O j' l' h9 with ⟨rfl,rfl⟩|⟨a3,h9⟩
                · rfl
                · simp only[if_true]at J;simp only[if_neg a3]at Z
                  exact absurd J (a4 k (m2 j' l' (Y j' a3) h9 ad k Z))
                · simp only[if_neg M]at J;simp only[if_true]at Z
                  exact absurd Z (a4 k (m2 j l (Y j M) h7 h8 k J))
                · simp only[if_neg M]at J;simp only[if_neg a3]at Z
                  exact m3 j j' l l' (Y j M) (Y j' a3) h7 h8 h9 ad k J Z
              box:=λhr=>absurd hr (by show ¬ B0<=t;omega) }
    · show (t,(⟨0,bg a.isAgg,aS (aq true a x.1.1) c (uE x.1.2 off ((aq true a x.1.1).getD c .dead))⟩:bS))::dj (t+1) ps x.2=_
      rw[bb];rfl
theorem tQ:∀ {ps:List PK} {x:ab ps} {u:List Value} {r:List (List Nat)},c9 P w ro pr ps x u r->u.length=ps.length
 |[],_,_,_,h=>by rw[h.1];rfl
 |_::_,_,_,_,⟨_,_,_,_,e,_,_,h⟩=>by rw[e,CG,CG,tQ h]
theorem vk:∀ (ps:List PK) (x:ab ps) (Z:List Value) (H:List (List Nat)) (t:Nat),c9 P w ro pr ps x Z H->H.flatten.Nodup->t+ps.length<=B0 ->
  ∃ J:List Ent,dj t ps x=J.map (λe=>(e.r,e.c))/\J.flatMap (·.bl)=H.flatten/\(∀ e∈J,qi P w ro pr (d6 t ps Z) e) /\
   (∀ e∈J,(t<=e.r/\e.r<t+ps.length)\/(B0+t<=e.r/\e.r<B0+t+ps.length))/\(J.map (·.r)).Nodup /\
   (∀ (i:Nat) (v:Value),Z[i]?=some v->∃ e∈J,e.r=t+i/\d9 e.c.sh v e.cs)/\(∀ z∈d6 t ps Z,∃ e∈J,e.r=z.1/\e.g=z.2/\B0<=z.1)
 |[],x,Z,H,t,⟨e1,e2⟩,_,_=>by
  subst e1;subst e2;exact⟨[],rfl,rfl,by simp,by simp,by simp,λi v h=>by simp at h,by simp[d6]⟩
 |pk::ps,x,Z,H,t,⟨v,O,b,a1,e1,e2,h1,h2⟩,X,hB=>by
  subst e1;subst e2;rw[BQ,CH]at X;simp only[CG]at hB;obtain⟨a5,M,p2⟩:=Bs t (by omega) (ps:=ps) (x:=x) X.1 h1;obtain⟨a2,q1,q2,q3,q4,q5,q6,q7⟩:=vk ps x.2 O a1 (t+1) h2 X.2.1 (by omega);have a0:d6 t (pk::ps) (v::O)=pk.bx t v++d6 (t+1) ps O:=by cases pk <;> rfl
  refine⟨a5++a2,by rw[p2,q1,CS],by rw[List.flatMap_append,M.bl,q2,BQ],λe y=>?_,λe y=>?_,?_,λi u hi=>?_,λz I=>?_⟩
  ·rw[a0];rcases BB.1 y with y|y
   ·exact (M.ok e y).mono (λz I=>BD _ I)
   ·exact (q3 e y).mono (λz I=>BE _ I)
  ·simp only[CG];rcases BB.1 y with y|y
   ·rcases M.at_ e y with h|h <;> omega
   ·rcases q4 e y with h|h <;> omega
  ·rw[CS,CH];refine⟨M.nod,q5,λa ha b' a3 e0=>?_⟩;subst e0;obtain⟨e,y,rfl⟩:=BL.1 ha;obtain⟨e',a4,e1⟩:=BL.1 a3;rcases M.at_ e y with h|h <;> rcases q4 e' a4 with h'|h' <;> omega
  ·cases i with
   |zero =>
    simp at hi;subst hi;obtain⟨e,y,h3,Y⟩:=M.slot;exact⟨e,BD _ y,by omega,Y⟩
   |succ i =>
    obtain⟨e,y,h3,Y⟩:=q6 i u (by simpa using hi);exact⟨e,BE _ y,by omega,Y⟩
  ·rw[a0]at I;rcases BB.1 I with I|I
   ·obtain⟨h3,e,y,Y,h5⟩:=M.bxs z I;exact⟨e,BD _ y,by rw[Y,h3],h5,by rw[h3];exact Nat.le_add_right _ _⟩
   ·obtain⟨e,y,Y,h5,h6⟩:=q7 z I;exact⟨e,BE _ y,Y,h5,h6⟩
def ge (w:World)(ro:Nat->Prop)(ps:List PK)(u:List Value)(r:List (List Nat))(nt:Nat):Env:=⟨w,ro,r.flatten,nt,d6 0 ps u,d7 0 ps u⟩
theorem nY:∀ {I:List Ent},(I.flatMap (·.bl)).Nodup->∀ e∈I,∀ y∈I,∀ k,k∈e.bl->k∈y.bl->e=y
 |[],_,e,O,_,_,_,_,_=>by simp at O
 |x::I,u,e,O,y,M,k,J,r=>by
  rw[List.flatMap_cons,CH]at u;rcases BO.1 O with H|H <;> rcases BO.1 M with z|z
  ·rw[H,z]
  ·rw[H]at J;exact absurd rfl (u.2.2 k J k (BT.2 ⟨y,z,r⟩))
  ·rw[z]at r;exact absurd rfl (u.2.2 k r k (BT.2 ⟨e,H,J⟩))
  ·exact nY u.2.1 e H y z k J r
theorem xZ:∀ {I:List Ent},(I.map (·.r)).Nodup->∀ e∈I,∀ y∈I,e.r=y.r->e=y
 |[],_,e,O,_,_,_=>by simp at O
 |x::I,u,e,O,y,M,J=>by
  rw[BY,CB]at u;rcases BO.1 O with H|H <;> rcases BO.1 M with z|z
  ·rw[H,z]
  ·exact absurd (BL.2 ⟨y,z,by rw[<- J,H]⟩) u.1
  ·exact absurd (BL.2 ⟨e,H,by rw[J,z]⟩) u.1
  ·exact xZ u.2 e H y z J
theorem rK:∀ (u:List Ent) (q:Nat),(av (u.map λe=>(e.r,e.c)) q=bS.none/\u.find? (λe=>e.r==q)=none)\/∃ e∈u,e.r=q/\u.find? (λe=>e.r==q)=some e/\av (u.map λe=>(e.r,e.c)) q=e.c
 |[],q=>.inl ⟨rfl,rfl⟩
 |e::u,q=>by
  by_cases h:e.r=q
  ·refine .inr ⟨e,BG ..,h,by simp[h],?_⟩;simp[av,ac,h]
  ·have y:BJ q e.r=false:=by
    cases y:BJ q e.r with
    |false=>rfl
    |true=>exact absurd (BH y).symm h
   have I:av ((e::u).map λe=>(e.r,e.c)) q=av (u.map λe=>(e.r,e.c)) q:=by simp[av,ac,y]
   have X:(e::u).find? (λe=>e.r==q)=u.find? (λe=>e.r==q):=by simp[h]
   rw[I,X];rcases rK u q with z|⟨H,z,M,J,O⟩
   ·exact .inl z
   ·exact .inr ⟨H,BF _ z,M,J,O⟩
theorem vm:∀ {ps:List PK} {r:List Value} {t:Nat} {z:Nat×Value},z∈d7 t ps r->∃ i,z.1=t+i/\r[i]?=some z.2
 |[],_,_,_,h=>by simp[d7]at h
 |u::ps,[],_,_,h=>by cases u <;> simp[d7]at h
 |u::ps,v::r,t,z,h=>by
  have:z=(t,v)\/z∈d7 (t+1) ps r:=by cases u <;> simp[d7]at h <;> first|exact h|exact .inr h
  rcases this with rfl|h
  ·exact⟨0,rfl,rfl⟩
  ·obtain⟨i,H,y⟩:=vm h;exact⟨i+1,by omega,by simpa using y⟩
theorem vn {ps:List PK}{x:ab ps}{O:List Value}{J:List (List Nat)}{nt:Nat}(h:c9 P w ro (λk=>k<w.heap.size/\k∉J.flatten) ps x O J)(a3:J.flatten.Nodup)
  (c4:ps.length<=nt) (hB:nt<=GH):Rel P (ge w ro ps O J nt) (av (dj 0 ps x)) { tmps:=O.toArray++CC (nt-O.length) undef,defers:=[] } w:=by
 have c3:=tQ h;have c5:GH<=B0:=by decide
 obtain⟨Y,q1,q2,q3,q4,q5,q6,q7⟩:=vk ps x O J 0 h a3 (by omega);rw[q1];have b5:=rK Y;have a4:∀ e∈Y,∀ H∈Y,e.r=H.r->e=H:=by
  intro e he H b4 hr;exact xZ q5 e he H b4 hr
 rw[<- q2]at a3;have a0:∀ e∈Y,∀ k∈e.bl,k∈J.flatten:=λe he k hk=>by rw[<- q2];exact BT.2 ⟨e,he,hk⟩
 have hE:∀ q,(av (Y.map λe=>(e.r,e.c)) q=bS.none/\Y.find? (λe=>e.r==q)=none)\/∃ e∈Y,e.r=q/\Y.find? (λe=>e.r==q)=some e/\av (Y.map λe=>(e.r,e.c)) q=e.c:=b5;have a1:∀ q,live (av (Y.map λe=>(e.r,e.c))) q->∃ e∈Y,e.r=q/\B0<=e.r/\Y.find? (λe=>e.r==q)=some e:=by
  rintro q ⟨h1,h2⟩;rcases hE q with ⟨I,_⟩|⟨e,I,y,h5,M⟩
  ·rw[I]at h2;cases h2
  ·exact⟨e,I,y,by rw[y];exact h1,h5⟩
 let β:Nat->Nat:=λq=>match Y.find? (λe=>e.r==q) with|some e=>e.g|none=>0
 let cs:Nat->List Value:=λq=>match Y.find? (λe=>e.r==q) with|some e=>e.cs|none=>[]
 let bs:Nat->Nat->List Nat:=λq j=>match Y.find? (λe=>e.r==q) with|some e=>e.bs j|none=>[]
 have a9:∀ z∈d6 0 ps O,B0<=z.1/\(av (Y.map λe=>(e.r,e.c)) z.1).sh=.agg/\β z.1=z.2:=by
  intro z hz;obtain⟨e,he,h1,h2,I⟩:=q7 z hz;refine⟨I,?_⟩;rcases hE z.1 with ⟨_,y⟩|⟨H,y,h5,M,Z⟩
  ·exfalso;rw[Cv]at y;exact y e he (by simp[h1])
  ·have:H=e:=a4 H y e he (by rw[h5,h1]);subst this;rw[Z];exact⟨((q3 H he).box (by rw[h1];exact I)).1,by simp only[β,M];exact h2⟩
 refine⟨{ β:=β,cs:=cs,bs:=bs,nw:=λ_=>False },?_⟩;have c0:(ge w ro ps O J nt).prot=λk=>k<w.heap.size/\k∉J.flatten:=rfl
 exact {
  nt:=by show (O.toArray++CC (nt-O.length) undef).size=nt;simp;omega
  df:=rfl
  slots:=λt ht=>by
   show d9 _ ((O.toArray++CC (nt-O.length) undef).getD t undef) (cs t);by_cases hq:t<ps.length
   ·have hv:=BR (show t<O.length by omega);have:(O.toArray++CC (nt-O.length) undef).getD t undef=O[t]:=by
     rw[BN,CX (by simp;omega)];simp[hv]
    rw[this];obtain⟨e,he,h1,h2⟩:=q6 t _ hv;rw[CK]at h1;rcases hE t with ⟨_,y⟩|⟨H,y,h5,M,Z⟩
    ·exfalso;rw[Cv]at y;exact y e he (by simp[h1])
    ·have:H=e:=a4 H y e he (by rw[h5,h1]);subst this;rw[Z];simp only[cs,M];exact h2
   ·rcases hE t with ⟨I,y⟩|⟨H,y,h5,M,Z⟩
    ·rw[I];simp only[cs,y];rfl
    ·rcases q4 H y with h8|h8 <;> omega
  boxes:=λb hb=>by
   rcases hE b with ⟨I,y⟩|⟨H,y,h5,M,Z⟩
   ·rw[I];exact .inl ⟨rfl,rfl⟩
   ·obtain⟨g1,g2,g3,⟨E,g4⟩,g5⟩:=(q3 H y).box (by rw[h5];exact hb);rw[Z];exact .inr ⟨g1,E,by simp only[β,cs,M];exact g4⟩
  len:=λq=>by
   rcases hE q with ⟨I,y⟩|⟨H,y,h5,M,Z⟩
   ·rw[I];simp only[cs,y];rfl
   ·rw[Z];simp only[cs,M];exact (q3 H y).len
  one:=λq u hu=>by
   have hu:u∈cs q:=hu;rcases hE q with ⟨I,y⟩|⟨H,y,h5,M,Z⟩
   ·simp only[cs,y]at hu;simp at hu
   ·simp only[cs,M]at hu;exact (q3 H y).one u hu
  leaf:=λq j l v X hv=>by
   have hv:(cs q)[j]?=some v:=hv;rcases hE q with ⟨I,y⟩|⟨H,y,h5,M,Z⟩
   ·rw[I]at X;simp[bS.none]at X
   ·rw[Z]at X;simp only[cs,M]at hv;show aK P _ _ _ w (bs q j) l v;simp only[bs,M];exact (q3 H y).leaf (ge w ro ps O J nt) _ _ rfl rfl rfl a9 j l v X hv
  ownb:=λq j l X ho k hk=>by
   have hk:k∈bs q j:=hk;rcases hE q with ⟨I,y⟩|⟨H,y,h5,M,Z⟩
   ·rw[I]at X;simp[bS.none]at X
   ·rw[Z]at X;simp only[bs,M]at hk;have b2:=(q3 H y).own j l X ho k hk;refine⟨id,λhp=>hp.2 (a0 H y k b2),λb hb e0=>?_⟩;obtain⟨e2,g1,g2,g3,g4⟩:=a1 b hb;have a6:=(q3 e2 g1).box g3;have e0:β b=k:=e0;simp only[β,g4]at e0;have:=nY a3 H y e2 g1 k b2 (by rw[<- e0];exact a6.2.1);subst this;exact a6.2.2.1 j l X ho (by rw[e0];exact hk)
  sep:=λq j l q' j' l' X ho a2 b1 k hk a5=>by
   have hk:k∈bs q j:=hk;have a5:k∈bs q' j':=a5;rcases hE q with ⟨I,y⟩|⟨e1,y,h5,M,Z⟩
   ·rw[I]at X;simp[bS.none]at X
   ·rcases hE q' with ⟨b3,ad⟩|⟨e2,ad,c1,b9,bx⟩
    ·rw[b3]at a2;simp[bS.none]at a2
    ·rw[Z]at X;rw[bx]at a2;simp only[bs,M]at hk;simp only[bs,b9]at a5;have:=nY a3 e1 y e2 ad k ((q3 e1 y).own j l X ho k hk) ((q3 e2 ad).own j' l' a2 b1 k a5);subst this;exact⟨by rw[<- h5,<- c1],(q3 e1 y).sep j j' l l' X ho a2 b1 k hk a5⟩
  box:=λb hb=>by
   obtain⟨e2,g1,g2,g3,g4⟩:=a1 b hb;have a6:=(q3 e2 g1).box g3;refine⟨id,λhp=>hp.2 ?_⟩;show β b∈_;simp only[β,g4];exact a0 e2 g1 _ a6.2.1
  inj:=λb b' hb c2 e0=>by
   obtain⟨e1,g1,g2,g3,g4⟩:=a1 b hb;obtain⟨e2,b0,bb,bn,ba⟩:=a1 b' c2;have e0:β b=β b':=e0;simp only[β,g4,ba]at e0;have:=nY a3 e1 g1 e2 b0 e1.g ((q3 e1 g1).box g3).2.1 (by rw[e0];exact ((q3 e2 b0).box bn).2.1);subst this;rw[<- g2,<- bb]
  nwlt:=λk hk=>hk.elim
  os:=rfl,tape:=rfl,output:=rfl,size:=Ck _,keep:=λ_ _=>rfl
  fixb:=λz hz=>by
   obtain⟨h1,h2,I⟩:=a9 z hz;exact⟨⟨h1,h2⟩,I⟩
  fixt:=λz hz=>by
   obtain⟨i,h1,h2⟩:=vm hz;rw[CK]at h1;show (O.toArray++CC (nt-O.length) undef).getD z.1 undef=z.2;rw[h1,BN,CX (by simpa using (BK.1 h2).1)];simp[h2] }
end
section
variable {P:Program} {V:Env} {W:Wit} {Γ:List Ctr} {T:TypeId->TI} {R:Type} {st:St} {a:Act} {w:World} {ro:Nat->Prop}
theorem Bt (hT:TOk P T)(h:ap P V W st a w)(x:ResultVar)(H:pu st T x≠.off) :
  ∃ v X,(match x with|.tmp t=>(pure (a.tmps.getD t undef):Sem Value)|.cell b t=>(do loadVar t (<- asAddr (a.tmps.getD b undef)):Sem Value)).run P w=.ok v w /\
   d9 (pu st T x) v X/\aC P V W st w (vq st T x) X:=by
 cases x with
 |tmp t =>
  obtain⟨X,h1,O⟩:=cU h (.tmp t);exact⟨_,X,rfl,h1,O⟩
 |cell t u =>
  simp only[pu]at H ⊢;split at H
  ·rename_i b off Y;cases M:decide ((st b).sh=.agg)&&Cm (off+(T u).cells) (st b).ls.length&&!BJ (T u).cells 0 with
   |false=>rw[M]at H;exact absurd rfl H
   |true =>
    simp only[Y,M,cond_true,vq];simp only[BC,decide_eq_true_eq,CE]at M;obtain⟨⟨h1,O⟩,h3⟩:=M;have O:off+(T u).cells<=(st b).ls.length:=B6 O;have a1:T u≠.none:=by
     intro e;rw[e]at h3;simp[TI.cells]at h3
    obtain⟨hp,_,_,_,_⟩:=bo h (.tmp t) (by rw[Y];simp);rw[Y]at hp;obtain⟨hB,Z,y⟩:=hp;have y:a.tmps.getD t undef=.pointer (some ⟨W.β b,off,none⟩):=y;rcases h.boxes b hB with ⟨J,_⟩|⟨_,E,J⟩
    ·rw[Z]at J;cases J
    ·have r:cV w (W.β b) 0 (W.cs b):=λi v y=>by
      rw[CK,cell_of_row w (W.β b) i _ E (0,0) J];simpa using y
     have a2:=h.len b;have I:=r.sub off (T u).cells;rw[CK]at I;obtain⟨v,z,a0⟩:=od (hT u) a1 I (by simp;omega);refine⟨v,_,?_,a0,((iv h b).drop off).take _⟩;simp only[y];simpa[asAddr]using z
  ·exact absurd rfl H
def nC (a:Act):ResultVar->Sem Value
 |.tmp t=>pure (a.tmps.getD t undef)
 |.cell b t=>do loadVar t (<- asAddr (a.tmps.getD b undef))
def nD (P:Program)(a:Act)(w:World):List ResultVar->List Value->Prop
 |[],u=>u=[]
 |x::y,u=>∃ v r,u=v::r/\(nC a x).run P w=.ok v w/\nD P a w y r
theorem rL:∀ (l:List ResultVar) (u:List Value),nD P a w l u->(l.mapM (nC a)).run P w=.ok u w
 |[],_,h=>by rw[show _=_ from h];rfl
 |x::l,_,⟨v,r,e,z,y⟩=>by subst e;simp[Cl,z,rL l r y]
theorem AB (b:Bool):bg b≠.off:=by cases b <;> simp[bg]
def RK.isBox:RK->Bool
 |.box _=>true
 |_=>false
theorem tR (hV:ax V)(hT:TOk P T)(h:ap P V W st a w)(b1:V.ro0=ro){fx:List Nat}:∀ (rs:List RK) (I:List ResultVar) (y:cM (ai rs)),kd st T fx rs I=some y ->
  ∀ {G:Nat->Prop},(∀ k,bk V W y.p y.frz k->G k) ->
  ∃ (us:List Value) (H:List (List Nat)) (bx:List Nat),nD P a w I us/\gz w G ro rs y.val us H/\(∀ k,H.flatten.count k=(aX W y.kill).count k+(bx.map W.β).count k) /\
   (∀ b∈bx,live st b/\fx.any (BJ b)=false)/\bx.length=rs.countP RK.isBox/\(∀ z∈y.frz,aB st z)/\∀ z∈y.kill,aB st z
 |[],[],y,J,G,hG=>by
  simp only[kd,BA]at J;subst J;exact⟨[],[],[],rfl,⟨rfl,rfl⟩,λk=>by simp[aX],by simp,rfl,by simp,by simp⟩
 |[],_::_,_,J,_,_=>by simp[kd]at J
 |_::_,[],_,J,_,_=>by simp[kd]at J
 |r::rs,x::I,y,J,G,hG=>by
  simp only[kd]at J;cases O:decide (pu st T x=r.sh) with
  |false=>simp[O]at J
  |true =>
   simp only[O,cond_true]at J;have O:=of_decide_eq_true O;split at J
   ·rename_i X y2 u b3;simp only[BA]at J;subst J;obtain⟨v,a2,a9,M,Y⟩:=Bt hT h x (by rw[O];cases r <;> simp only[RK.sh] <;> first|exact AB _|simp);rw[O]at M;have a1:∀ k,bk V W X.p X.frz k->G k:=λk Z=>hG k (dP.1 k Z)
    have b4:∀ k,bk V W y2.p y2.frz k->G k:=λk Z=>hG k (dP.2 k Z)
    obtain⟨us,H,bx,i1,i2,i3,i4,i5,i6,i7⟩:=tR hV hT h b1 rs I y2 b3 b4;have a3:(nC a x).run P w=.ok v w:=by cases x <;> exact a9
    have a4:∀ (b:List Nat) (a0:List Nat),p6 w G ro r X.val v b->(∀ k,b.count k=(aX W X.kill).count k+(a0.map W.β).count k)->(∀ b∈a0,live st b/\fx.any (BJ b)=false)->a0.length=(if r.isBox then 1 else 0)->(∀ z∈X.frz,aB st z)->(∀ z∈X.kill,aB st z) ->
      ∃ (us:List Value) (H:List (List Nat)) (bx:List Nat),nD P a w (x::I) us/\gz w G ro (r::rs) (X.val,y2.val) us H/\(∀ k,H.flatten.count k=(aX W (X.kill++y2.kill)).count k+(bx.map W.β).count k) /\
       (∀ b∈bx,live st b/\fx.any (BJ b)=false)/\bx.length=(r::rs).countP RK.isBox/\(∀ z∈X.frz++y2.frz,aB st z)/\∀ z∈X.kill++y2.kill,aB st z:=by
     intro b a0 f1 f2 f3 f4 f5 f6;refine⟨v::us,b::H,a0++bx,⟨v,us,rfl,a3,i1⟩,⟨v,us,b,H,rfl,rfl,f1,i2⟩,λk=>?_,λz hz=>(BB.1 hz).elim (f3 z) (i4 z),?_,λz hz=>(BB.1 hz).elim (f5 z) (i6 z),λz hz=>(BB.1 hz).elim (f6 z) (i7 z)⟩
     ·rw[BQ,BU,f2 k,i3 k,dI,BU,CS,BU];omega
     ·rw[List.length_append,f4,i5,C3];cases r.isBox <;> simp <;> omega
    cases r with
    |v b =>
     simp only[rZ]at u;obtain⟨g1,g2,g3⟩:=dN (pos:=0) h Y u;exact a4 (aX W X.kill) [] ⟨a2,gA M,g1.mono a1⟩ (λk=>by simp) (by simp) rfl g2 g3
    |bv b =>
     simp only[rZ,BI]at u;obtain⟨⟨p,z⟩,hz,rfl⟩:=u;have g1:=ey h Y hz;refine a4 [] [] ⟨rfl,a2,gA M,g1.mono λk Z=>?_⟩ (λk=>by simp[aX]) (by simp) rfl (λz hz=>eh Y hz) (by simp);rcases Z with (Z|⟨_,Z⟩)|Z
     ·exact .inl (a1 k (.inl (.inl Z)))
     ·exact .inr (by rw[<- b1];exact Z)
     ·exact .inl (a1 k (.inr Z))
    |box b =>
     simp only[rZ]at u;split at u
     ·rename_i b0 b5;cases a5:!(fx.any (BJ b0)) with
      |false=>rw[a5]at u;cases u
      |true =>
       rw[a5]at u;simp only[cond_true]at u;have M:a2=[v]:=M;subst M;rw[b5]at Y;obtain⟨hB,ad,a6⟩:=Y.1.1;obtain⟨g1,g2,g3⟩:=dN (pos:=0) h (iv h b0) u;rcases h.boxes b0 hB with ⟨h8,_⟩|⟨_,E,h8⟩
       ·rw[ad]at h8;cases h8
       ·exact a4 (W.β b0::aX W X.kill) [b0] ⟨W.β b0,W.cs b0,E,_,a6,h8,g1.mono a1,rfl⟩ (λk=>by
         rw[CT,BY,DB,CT,List.count_nil];omega) (λb' b2=>by
         simp at b2;subst b2;exact⟨⟨hB,ad⟩,by simpa using a5⟩) rfl g2 g3
     ·cases u
   ·cases J
theorem mz (hV:ax V)(h:ap P V W st a w){w0:World}{pr:Nat->Prop}(a3:V.nt<=GH):∀ (ps:List PK) (x:ab ps) (vs:List Value) (a6:List (List Nat)) (t:Nat) (o:cM (ah ps)),c9 P w0 ro pr ps x vs a6->hY st t ps=some o->t+ps.length<=V.nt ->
  (∀ z∈d7 t ps vs,a.tmps.getD z.1 undef=z.2)->(∀ z∈d6 t ps vs,live st z.1/\W.β z.1=z.2)->∀ {G:Nat->Prop},(∀ k,bk V W o.p o.frz k->G k) ->
  ∃ r,bK w G ps o.val vs r/\(∀ k,r.flatten.count k=(aX W o.kill).count k+((bG t ps).map W.β).count k)/\(∀ z∈o.frz,aB st z)/\(∀ z∈o.kill,aB st z)/\∀ b∈bG t ps,live st b
 |[],x,vs,a6,t,o,⟨e1,e2⟩,y,_,_,_,G,hG=>by
  simp only[hY,BA]at y;subst y;subst e1;exact⟨[],trivial,λk=>by simp[aX,bG],by simp,by simp,by simp[bG]⟩
 |pk::ps,x,vs,a6,t,o,⟨v,X,b,a0,e1,e2,h1,h2⟩,y,ht,a2,a1,G,hG=>by
  subst e1;subst e2;simp only[CG]at ht;have u:∀ (o':cM (ah ps)),hY st (t+1) ps=some o'->d7 t (pk::ps) (v::X)=d7 (t+1) ps X->d6 t (pk::ps) (v::X)=d6 (t+1) ps X->(∀ k,bk V W o'.p o'.frz k->G k) ->
    ∃ r,bK w G ps o'.val X r/\(∀ k,r.flatten.count k=(aX W o'.kill).count k+((bG (t+1) ps).map W.β).count k)/\(∀ z∈o'.frz,aB st z)/\(∀ z∈o'.kill,aB st z)/\∀ b∈bG (t+1) ps,live st b:=by
   intro o' b1 e1 e2 ad;exact mz hV h a3 ps x.2 X a0 (t+1) o' h2 b1 (by omega) (λz H=>a2 z (by rw[e1];exact H)) (λz H=>a1 z (by rw[e2];exact H)) ad
  cases pk with
  |io b =>
   simp only[hY]at y;split at y
   ·rename_i y1 y2 Z a5;simp only[BA]at y;subst y;obtain⟨r,O,Y,I,M,J⟩:=mz hV h a3 ps x.2 X a0 (t+1) y2 h2 a5 (by omega) (λz H=>a2 z (BF _ H)) (λz H=>a1 z H) (λk hk=>hG k (dP.2 k hk));cases hb:decide ((au st (.tmp t)).1=bg b.isAgg) with
    |false=>rw[hb]at Z;cases Z
    |true =>
     rw[hb]at Z;simp only[cond_true]at Z;obtain⟨cs,h3,h4⟩:=cU h (.tmp t);rw[of_decide_eq_true hb]at h3;have hv:a.eval (.tmp t)=v:=a2 (t,v) (BG ..);rw[hv]at h3;obtain⟨g1,g2,g3⟩:=dN (pos:=0) h h4 Z;refine⟨aX W y1.kill::r,⟨?_,O⟩,λk=>?_,λz H=>(BB.1 H).elim (g2 z) (I z),λz H=>(BB.1 H).elim (g3 z) (M z),J⟩
     ·unfold jp;rw[if_neg (by simp)];exact⟨cs,gA h3,g1.mono (λk hk=>hG k (dP.1 k hk))⟩
     ·rw[BQ,BU,Y k,dI,BU];show _=_+((bG (t+1) ps).map W.β).count k;omega
   ·cases y
  |iop b =>
   simp only[hY]at y;split at y
   ·rename_i y1 y2 Z a5;simp only[BA]at y;subst y;obtain⟨r,O,Y,I,M,J⟩:=mz hV h a3 ps x.2 X a0 (t+1) y2 h2 a5 (by omega) (λz H=>a2 z (BF _ H)) (λz H=>a1 z (BF _ H)) (λk hk=>hG k (dP.2 k hk));obtain⟨g,c,E,b0,hv,_,_,_⟩:=h1;subst hv;obtain⟨a4,hβ⟩:=a1 (B0+t,tP (.pointer (some ⟨g,0,none⟩))) (BG ..);have hβ:W.β (B0+t)=g:=hβ;obtain⟨g1,g2,g3⟩:=dN (pos:=0) h (iv h (B0+t)) Z;rcases h.boxes (B0+t) a4.1 with ⟨h8,_⟩|⟨_,E',h8⟩
    ·have:=a4.2;rw[h8]at this;cases this
    ·refine⟨(g::aX W y1.kill)::r,⟨?_,O⟩,λk=>?_,λz H=>(BB.1 H).elim (g2 z) (I z),λz H=>(BB.1 H).elim (g3 z) (M z),λb' a9=>?_⟩
     ·unfold jp;rw[if_pos rfl];exact⟨g,W.cs (B0+t),E',_,rfl,by rw[<- hβ];exact h8,g1.mono (λk hk=>hG k (dP.1 k hk)),rfl⟩
     ·rw[BQ,BU,Y k,dI,BU,CT];show _=_+(W.β (B0+t)::(bG (t+1) ps).map W.β).count k;rw[CT,hβ];omega
     ·rcases BO.1 a9 with rfl|a9
      ·exact a4
      ·exact J b' a9
   ·cases y
  |rd b =>
   obtain⟨r,O,Y,I,M,J⟩:=u o y rfl rfl hG;exact⟨[]::r,⟨rfl,O⟩,λk=>by rw[BQ,B9];exact Y k,I,M,J⟩
  |own b =>
   obtain⟨r,O,Y,I,M,J⟩:=u o y rfl rfl hG;exact⟨[]::r,⟨rfl,O⟩,λk=>by rw[BQ,B9];exact Y k,I,M,J⟩
  |rref b =>
   obtain⟨r,O,Y,I,M,J⟩:=u o y rfl rfl hG;exact⟨[]::r,⟨rfl,O⟩,λk=>by rw[BQ,B9];exact Y k,I,M,J⟩
  |rref2 b =>
   obtain⟨r,O,Y,I,M,J⟩:=u o y rfl rfl hG;exact⟨[]::r,⟨rfl,O⟩,λk=>by rw[BQ,B9];exact Y k,I,M,J⟩
  |fn As B =>
   obtain⟨r,O,Y,I,M,J⟩:=u o y rfl rfl hG;exact⟨[]::r,⟨rfl,O⟩,λk=>by rw[BQ,B9];exact Y k,I,M,J⟩
  |clo f cs =>
   obtain⟨r,O,Y,I,M,J⟩:=u o y rfl rfl hG;exact⟨[]::r,⟨rfl,O⟩,λk=>by rw[BQ,B9];exact Y k,I,M,J⟩
  |hol b c off =>
   obtain⟨r,O,Y,I,M,J⟩:=u o y rfl rfl hG;exact⟨[]::r,⟨rfl,O⟩,λk=>by rw[BQ,B9];exact Y k,I,M,J⟩
end
section
variable {P:Program} {Γ:List Ctr} {T:TypeId->TI} {w:World} {ro:Nat->Prop}
theorem uB {fn:Func}{a:Act}{w:World}{r:List Value}(h:nD P a w fn.results.toList r):(results fn a.tmps).run P w=.ok (if h:r.toArray.size=1 then r.toArray[0] else .tuple r.toArray) w:=by
 have z:=rL _ _ h;have e:results fn a.tmps=(fn.results.mapM (nC a) >>= λu=>pure (if h:u.size=1 then u[0] else .tuple u)):=by
  unfold results;congr 1
 have y:(fn.results.mapM (nC a)).run P w=.ok r.toArray w:=by
  rw[Array.mapM_eq_mapM_toList];simp[z]
 rw[e];simp only[CO,y,CI,Cx]
theorem Bu (us:List Value):sf us (if h:us.toArray.size=1 then us.toArray[0] else .tuple us.toArray):=by
 match us with
 |[]=>rfl
 |[u]=>rfl
 |u::r::us =>
  rw[dif_neg (by simp)];rfl
theorem rM:∀ (ps:List PK) (t:Nat),(bG t ps).Nodup/\∀ b∈bG t ps,B0+t<=b
 |[],t=>⟨CY,by simp[bG]⟩
 |H::ps,t=>by
  obtain⟨z,y⟩:=rM ps (t+1);have u:∀ b∈bG (t+1) ps,B0+t<=b:=λb r=>by have:=y b r;omega
  cases H with
  |iop a =>
   refine⟨CB.2 ⟨λI=>?_,z⟩,λb r=>?_⟩
   ·have:=y _ I;omega
   ·rcases BO.1 r with rfl|r
    ·exact Ck _
    ·exact u b r
  |_=>exact⟨z,u⟩
theorem Bv {u:List RK}(h:qo u=true):u.countP RK.isBox<=1:=by
 unfold qo at h;split at h
 ·simp[RK.isBox]
 ·rw[Cp.2]
  ·exact C5 _
  ·intro r y;rw[BX]at h;have:=h r y;cases r <;> simp[RK.isV,RK.isBox]at this ⊢
theorem rN {β:Nat->Nat}:∀ {bs:List Nat},bs.Nodup->(∀ b∈bs,∀ u∈bs,β b=β u->b=u)->(bs.map β).Nodup
 |[],_,_=>CY
 |b::bs,z,H=>by
  rw[CB]at z;rw[BY,CB];refine⟨λM=>?_,rN z.2 (λx J y I=>H x (BF _ J) y (BF _ I))⟩;obtain⟨u,r,e⟩:=BL.1 M;have:=H u (BF _ r) b (BG ..) e;exact z.1 (by rw[<- this];exact r)
theorem x3 (hT:TOk P T){c:Ctr}(c5:qo c.rs=true){vs:List Value}{J:List (List Nat)}{fn:Func}{nt:Nat}(hV:ax (ge w ro c.ps vs J nt)){x:ab c.ps}{pr:Nat->Prop}(b2:c9 P w ro pr c.ps x vs J)(c2:c.ps.length<=nt){ex:Ex}{s1:St}{y:ai c.rs×ah c.ps}
  (r:cY T c.ps c.rs c.fresh fn.results.toList ex s1=some y) {a:Act} {w':World} (u:Rel P (ge w ro c.ps vs J nt) s1 a w') :
  (ex=.normal\/ex=.ret)/\∃ v,(results fn a.tmps).run P w'=.ok v w'/\tu c w ro vs J y (.returned v) w':=by
 obtain⟨W,u⟩:=u;have ba:ex=.normal\/ex=.ret:=by
  cases ex with
  |normal=>exact .inl rfl
  |ret=>exact .inr rfl
  |exit id=>cases r
 refine⟨ba,?_⟩;have r:finR T c.ps c.rs c.fresh fn.results.toList s1=some y:=by
  rcases ba with rfl|rfl <;> exact r
 unfold finR at r;split at r
 ·rename_i O M c1 c0;cases Y:aY (O.kill++M.kill)&&dC (O.frz++M.frz) (O.kill++M.kill)&&(!c.fresh||!(O.p||M.p)) with
  |false=>rw[Y]at r;cases r
  |true =>
   rw[Y]at r;simp only[cond_true,BA]at r;subst r;simp only[BC]at Y;obtain⟨⟨bl,c3⟩,b9⟩:=Y;let N:Nat->Prop:=λk=>W.nw k\/∃ z∈O.frz++M.frz,k∈W.bs z.1 z.2
   have hG:∀ (p:Bool) (b1:List (Nat×Nat)),(p=true->(O.p||M.p)=true)->(∀ z∈b1,z∈O.frz++M.frz)->∀ k,bk (ge w ro c.ps vs J nt) W p b1 k->N k\/(c.fresh=false/\ro k):=by
    intro p b1 hp H k I;rcases I with (I|⟨hq,I⟩)|⟨z,Z,I⟩
    ·exact .inl (.inl I)
    ·refine .inr ⟨?_,I⟩;rw[hp hq]at b9;simpa using b9
    ·exact .inl (.inr ⟨z,H z Z,I⟩)
   obtain⟨us,b3,bx,r1,r2,r3,r4,r5,r6,r7⟩:=tR hV hT u rfl c.rs fn.results.toList O c1 (G:=λk=>N k\/(c.fresh=false/\ro k)) (hG O.p O.frz (by intro h;simp[h]) (λz H=>BD _ H));obtain⟨a9,o1,o2,o3,o4,o5⟩:=mz hV u hV.nt c.ps x vs J 0 M b2 c0 (by rw[CK];exact c2) (λz H=>u.fixt z H) (λz H=>u.fixb z H) (G:=λk=>N k\/(c.fresh=false/\ro k)) (hG M.p M.frz (by intro h;simp[h]) (λz H=>BE _ H));have a1:∀ z∈O.kill++M.kill,aB s1 z:=λz H=>(BB.1 H).elim (r7 z) (o4 z)
   have a2:∀ z∈O.frz++M.frz,aB s1 z:=λz H=>(BB.1 H).elim (r6 z) (o3 z)
   have a4:∀ k,k<w'.heap.size->¬ (ge w ro c.ps vs J nt).prot k->p7 w w' J.flatten k:=by
    intro k I hp;refine⟨I,?_⟩;by_cases c4:k<w.heap.size
    ·right;apply B5;intro hn;exact hp ⟨c4,hn⟩
    ·exact .inl (by omega)
   have c6:∀ k,N k->p7 w w' J.flatten k:=by
    rintro k (I|⟨z,H,I⟩)
    ·exact a4 k (u.nwlt k I).1 (u.nwlt k I).2
    ·obtain⟨l,h7,h8⟩:=a2 z H;exact a4 k (u.own_lt h7 h8 k I) (u.ownb z.1 z.2 l h7 h8 k I).2.1
   have X:∀ b∈bx++bG 0 c.ps,live s1 b:=λb R=>(BB.1 R).elim (λR=>(r4 b R).1) (o5 b)
   have bb:(bx++bG 0 c.ps).Nodup:=by
    rw[CH];refine⟨?_,(rM c.ps 0).1,λb R b' b5 e=>?_⟩
    ·have:=Bv c5;rw[<- r5]at this
     match bx,this with
     |[],_=>exact CY
     |[b],_=>simp
    ·subst e;have:=Ca.1 (r4 b R).2 b b5;simp at this
   have b4:=rN (β:=W.β) bb (λb R b' b5 e=>u.inj b b' (X b R) (X b' b5) e);have a5:∀ k,(a9.flatten++b3.flatten).count k=(aX W (O.kill++M.kill)).count k+((bx++bG 0 c.ps).map W.β).count k:=λk=>by
    rw[BU,o2 k,r3 k,dI,BU,CS,BU];omega
   have bn:=br.1 (gN u bl a1);have a6:∀ k∈a9.flatten++b3.flatten,(∃ z∈O.kill++M.kill,k∈W.bs z.1 z.2)\/∃ b,live s1 b/\W.β b=k:=λk I=>by
    have h5:=BW.2 I;rw[a5 k]at h5;by_cases h6:k∈aX W (O.kill++M.kill)
    ·exact .inl (gl.1 h6)
    ·have:=CZ.2 h6;obtain⟨b,R,e⟩:=BL.1 (BW.1 (show 0<((bx++bG 0 c.ps).map W.β).count k by omega));exact .inr ⟨b,X b R,e⟩
   refine⟨_,uB r1,_,us,N,a9,b3,rfl,Bu us,u.size,u.os,u.tape,u.output,λk h1 h2=>u.keep k ⟨h1,h2⟩,c6,o1,r2,br.2 λk=>?_,λk I=>?_⟩
   ·rw[a5 k];have h5:=bn k;have h6:=br.1 b4 k;by_cases h7:k∈(bx++bG 0 c.ps).map W.β
    ·have:(aX W (O.kill++M.kill)).count k=0:=CZ.2 λhm=>by
      obtain⟨b,R,e⟩:=BL.1 h7;obtain⟨z,H,a3⟩:=gl.1 hm;obtain⟨l,hl,ho⟩:=a1 z H;exact (u.ownb z.1 z.2 l hl ho k a3).2.2 b (X b R) e
     omega
    ·have:=CZ.2 h7;omega
   ·rcases a6 k I with ⟨z,H,a3⟩|⟨b,R,e⟩
    ·obtain⟨l,hl,ho⟩:=a1 z H;have h9:=u.ownb z.1 z.2 l hl ho k a3;refine⟨a4 k (u.own_lt hl ho k a3) h9.2.1,?_⟩;rintro (hn|⟨z',Z,a0⟩)
     ·exact h9.1 hn
     ·obtain⟨l',b0,ad⟩:=a2 z' Z;obtain⟨e1,e2⟩:=u.sep z.1 z.2 l z'.1 z'.2 l' hl ho b0 ad k a3 a0;exact nI c3 z' Z (by rw[show z'=z from Prod.ext e1.symm e2.symm];exact H)
    ·subst e;have h9:=u.box b R;refine⟨a4 _ (u.box_lt R) h9.2,?_⟩;rintro (hn|⟨z',Z,a0⟩)
     ·exact h9.1 hn
     ·obtain⟨l',b0,ad⟩:=a2 z' Z;exact (u.ownb z'.1 z'.2 l' b0 ad _ a0).2.2 b R rfl
 ·cases r
theorem jX:∀ {ps:List PK} {u:List Value} {t:Nat} {z:Nat×Value},z∈d7 t ps u->z.1∈gj t ps
 |[],_,_,_,h=>by simp[d7]at h
 |r::ps,[],_,_,h=>by cases r <;> simp[d7]at h
 |r::ps,v::u,t,z,h=>by
  cases r <;> simp only[d7,gj,BO]at h ⊢ <;> first
   |exact jX h
   |exact h.imp (λe=>by rw[e]) jX
theorem jY:∀ {ps:List PK} {u:List Value} {t:Nat} {z:Nat×Nat},z∈d6 t ps u->z.1∈bG t ps
 |[],_,_,_,h=>by simp[d6]at h
 |r::ps,[],_,_,h=>by cases r <;> simp[d6]at h
 |r::ps,v::u,t,z,h=>by
  cases r <;> simp only[d6,bG,BO]at h ⊢ <;> first
   |exact jY h
   |exact h.imp (λe=>by rw[e]) jY
theorem dn {f:FuncId}{fn:Func}{c:Code}(H:P.funcs[f]?=some fn)(y:(fn.name== "runtime.NumGoroutine")=false) (z:fn.body=some c):fP P f:=by
 intro u w;have r:fn.name≠ "runtime.NumGoroutine" := by simpa using y
 simp[callFunc,H,r,z]
theorem pi (hT:TOk P T)(hΓ:∀ c∈Γ,bP P c)(Y:P.follows .mixedOrders=true){c:Ctr}{fn:Func}(hf:P.funcs[c.f]?=some fn)(hn:(fn.name== "runtime.NumGoroutine")=false)
  {L:List (Nat×List (Nat×List Coe))} {R:Nat} (O:fn.body.isSome=true) (M:∀ x,evF Γ T L R fn c.ps c.rs c.fresh x=c.den x):bP P c:=by
 obtain⟨u,O⟩:=Option.isSome_iff_exists.1 O;refine⟨dn hf hn O,λw ro x vs a3 y H a4 a5 J=>?_⟩;rw[<- M]at J;unfold evF at J;simp only[O]at J;cases r:dO fn.ntmps (gj 0 c.ps) u&&Cm c.ps.length fn.ntmps&&Cm fn.ntmps GH&&qo c.rs&&dp L (bG 0 c.ps) u with
 |false=>simp[r]at J
 |true =>
  simp only[r,cond_true]at J;simp only[BC]at r;obtain⟨⟨⟨⟨h1,h2⟩,h3⟩,h4⟩,h5⟩:=r;have h2:=B6 h2;have h3:=B6 h3;have hV:ax (ge w ro c.ps vs a3 fn.ntmps):=⟨λk hk=>a4 k hk,h3⟩;have Z:=vn (P:=P) (ro:=ro) H a5 h2 h3;refine calls_of_wp hf O ?_;rw[Cy];refine si hV hT hΓ Y (λz hz=>jY hz) (nt:=fn.ntmps) (fix:=gj 0 c.ps) rfl (λz hz=>jX hz) u h1 h5 _ _ y _ J (λex s1 a0 a' w' hr=>?_) _ _ Z;obtain⟨a2,v,X,I⟩:=x3 hT h4 hV H h2 a0 hr;have a1:a'.defers=[]:=by obtain⟨W,hr⟩:=hr;exact hr.df
  rcases a2 with rfl|rfl <;> exact⟨a1,v,X,I⟩
end
section
variable {P:Program}
def szB (P:Program)(t:TypeId)(n:Nat):Bool :=
 match P.info? t with
 |some i=>BJ i.size n
 |none=>false
theorem fK {t:TypeId}{n:Nat}(h:szB P t n=true):bQ P t n:=by
 unfold szB at h;unfold bQ;split at h
 ·rename_i i r;rw[r];simp only[B3];rw[BH h]
 ·cases h
def tS (P:Program)(t:TypeId)(agg:Bool):Bool :=
 match P.underlying t with
 |some (.struct _)|some (.array _ _)=>agg
 |some _=>!agg
 |none=>false
theorem qO {t:TypeId}{agg:Bool}(h:tS P t agg=true):(P.underlying t).map (λd=>match d with|.struct _|.array _ _=>true|_=>false)=some agg:=by
 unfold tS at h;split at h
 ·rename_i r;rw[r];simp[h]
 ·rename_i r;rw[r];simp[h]
 ·rename_i d y u r;rw[r];simp only[B3,BA];cases agg with
  |true=>cases h
  |false =>
   cases d <;> first|rfl|(exact absurd r (y _))|(exact absurd r (u _ _))
 ·cases h
theorem AC {t:TypeId}{agg:Bool}(h:(P.underlying t).map (λd=>match d with|.struct _|.array _ _=>true|_=>false)=some agg)(w:World):(isAgg t).run P w=.ok agg w:=by
 unfold isAgg;cases r:P.underlying t with
 |none=>simp[r]at h
 |some u =>
  rw[r]at h;simp only[B3,BA]at h;subst h;rw[CO,run_underlying r w];cases u <;> rfl
def lF (P:Program)(f:Field)(off:Nat)(b:Ty):Bool:=(f.name != "_")&&BJ f.offset off&&szB P f.type b.cells&&tS P f.type b.isAgg
def eqF (P:Program)(g:Ty->TypeId->Bool):List Field->Nat->Ty->Bool
 |[],_,_=>false
 |[f],off,b=>lF P f off b&&g b f.type
 |f::r,off,.pair b c=>lF P f off b&&g b f.type&&eqF P g r (off+b.cells) c
 |_,_,_=>false
def eqT (P:Program):Nat->Ty->TypeId->Bool
 |0,_,_=>false
 |n+1,a,t=>match a with
  |.int k=>(match P.underlying t with|some (.int k')=>decide (k'=k)|_=>false)
  |.bool=>(match P.underlying t with|some .bool=>true|_=>false)
  |.str=>(match P.underlying t with|some .string=>true|_=>false)
  |.pair b c=>(match P.underlying t with|some (.struct fs)=>!P.stoodInHeld t&&eqF P (eqT P n) fs.toList 0 (.pair b c)|_=>false)
  |_=>false
theorem zl:∀ (b:Ty),b.isAgg=false->b.cells=1
 |.int _,_=>rfl
 |.bool,_=>rfl
 |.str,_=>rfl
 |.list _ _ _,_=>rfl
 |.hdr,_=>rfl
 |.unit,h=>by cases h
 |.pair _ _,h=>by cases h
theorem mA {f:Field}{off:Nat}{b:Ty}(h:lF P f off b=true){xs p c s:List Value}(M:xs=p++c++s)(J:p.length=off)(I:c.length=b.cells)(w:World) :
  ∃ v,(part f.type xs.toArray f.offset).run P w=.ok v w/\db b.isAgg v c:=by
 unfold lF at h;simp only[BC]at h;obtain⟨⟨⟨_,y⟩,R⟩,X⟩:=h;have y:=BH y;have r:=AC (qO X) w;have H:=dt (fK R) w;have u:(xs.drop off).take b.cells=c:=by
  rw[M,B7,<- J,List.drop_left,<- I,List.take_left]
 cases z:b.isAgg with
 |true =>
  rw[z]at r;refine⟨.agg c.toArray,?_,rfl⟩;have e:xs.toArray.extract off (off+b.cells)=c.toArray:=by
   rw[List.extract_toArray,List.extract_eq_take_drop,Nat.add_sub_cancel_left,u]
  simp only[part,CO,r,CI,if_true,H,Cx,y,e]
 |false =>
  rw[z]at r;have O:=zl b z;rw[O]at I
  match c,I with
  |[v],_ =>
   refine⟨v,?_,rfl⟩;have e:xs.toArray[off]?=some v:=by
    simp only[List.getElem?_toArray];rw[M,B7,BZ (by omega)];simp[J]
   simp only[part,CO,r,CI,CU,if_false,y,e,Cx]
def zF (P:Program)(d:Nat)(b:Ty)(t:TypeId):Prop:=∀ (w:World) (G:Nat->Prop) (x y:b.den) (z r:Value) (H u:List Value),db b.isAgg z H->Rd w G b x H->db b.isAgg r u->Rd w G b y u ->
 (Op.equalIn d t z r).run P w=.ok (b.eqv x y) w
theorem x4 {d:Nat}{g:Ty->TypeId->Bool}(hg:∀ b t,g b t=true->zF P d b t):∀ (fs:List Field) (off:Nat) (b:Ty),eqF P g fs off b=true->∀ (w:World) (G:Nat->Prop) (x y:b.den) (r J z M:List Value),
  r.length=off->z.length=off->Rd w G b x J->Rd w G b y M->(Op.eqFields d (r++J).toArray (z++M).toArray fs).run P w=.ok (b.eqv x y) w
 |[],_,_,h=>by simp[eqF]at h
 |[f],off,b,h=>by
  intro w G x y r J z M H u hx hy;simp only[eqF,BC]at h;obtain⟨v1,h1,h2⟩:=mA h.1 (xs:=r++J) (p:=r) (c:=J) (s:=[]) (by simp) H hx.len w;obtain⟨v2,h3,h4⟩:=mA h.1 (xs:=z++M) (p:=z) (c:=M) (s:=[]) (by simp) u hy.len w;have h5:=hg b f.type h.2 w G x y v1 v2 J M h2 hx h4 hy;have hn:f.name≠ "_" := by
   have:=h.1;unfold lF at this;simp only[BC]at this;simpa using this.1.1.1
  simp only[Op.eqFields,if_pos hn,CO,h1,h3,h5,CI];cases b.eqv x y <;> simp
 |f::X::fs,off,.pair b c,h=>by
  intro w G x y r J z M H u hx hy;simp only[eqF,BC]at h;obtain⟨⟨Y,a2⟩,I⟩:=h;obtain⟨Z,c2,rfl,R,a0⟩:=hx;obtain⟨d1,d2,rfl,O,a1⟩:=hy;obtain⟨v1,h1,h2⟩:=mA Y (xs:=r++(Z++c2)) (p:=r) (c:=Z) (s:=c2) (by simp) H R.len w;obtain⟨v2,h3,h4⟩:=mA Y (xs:=z++(d1++d2)) (p:=z) (c:=d1) (s:=d2) (by simp) u O.len w;have h5:=hg b f.type a2 w G x.1 y.1 v1 v2 Z d1 h2 R h4 O;have h6:=x4 hg (X::fs) (off+b.cells) c I w G x.2 y.2 (r++Z) c2 (z++d1) d2 (by simp[H,R.len]) (by simp[u,O.len]) a0 a1;rw[B7,B7]at h6;have hn:f.name≠ "_" := by
   unfold lF at Y;simp only[BC]at Y;simpa using Y.1.1.1
  rw[Op.eqFields];simp only[if_pos hn,CO,h1,h3,h5,CI];show _=Result.ok (b.eqv x.1 y.1&&c.eqv x.2 y.2) w;cases b.eqv x.1 y.1 with
  |false=>simp
  |true=>simpa using h6
 |f::X::fs,off,.int _,h=>by simp[eqF]at h
 |f::X::fs,off,.bool,h=>by simp[eqF]at h
 |f::X::fs,off,.str,h=>by simp[eqF]at h
 |f::X::fs,off,.unit,h=>by simp[eqF]at h
 |f::X::fs,off,.list _ _ _,h=>by simp[eqF]at h
 |f::X::fs,off,.hdr,h=>by simp[eqF]at h
theorem rO (x y:ByteArray):(x==y)=decide (x=y):=by
 rw[beq_toListBytes];by_cases h:x=y
 ·subst h;simp
 ·rw[decide_eq_false h];cases r:(x.toList==y.toList) with
  |false=>rfl
  |true =>
   exfalso;apply h;have:=eq_of_beq r;rw[Cq,Cq]at this;apply ByteArray.ext;exact Array.ext' this
theorem x5:∀ (n:Nat) (a:Ty) (t:TypeId),eqT P n a t=true->∀ d,n<=d->zF P d a t
 |0,_,_,h=>by simp[eqT]at h
 |n+1,a,t,h=>by
  intro d hd;obtain⟨d,rfl⟩:∃ d',d=d'+1:=⟨d-1,by omega⟩;intro w G x y O R I J u H r z;cases a with
  |int k =>
   simp only[eqT]at h;split at h
   ·rename_i Z M;have hk:=of_decide_eq_true h;subst hk;have H:I=[.int Z x]:=H;have z:J=[.int Z y]:=z;have u:I=[O]:=u;have r:J=[R]:=r;rw[H]at u;rw[z]at r;simp at u r;subst u;subst r;simp[Op.equalIn,run_underlying M,Ty.eqv];rfl
   ·cases h
  |bool =>
   simp only[eqT]at h;split at h
   ·rename_i M;have H:I=[.bool x]:=H;have z:J=[.bool y]:=z;have u:I=[O]:=u;have r:J=[R]:=r;rw[H]at u;rw[z]at r;simp at u r;subst u;subst r;simp[Op.equalIn,run_underlying M,Ty.eqv]
   ·cases h
  |str =>
   simp only[eqT]at h;split at h
   ·rename_i M;have H:I=[.string x]:=H;have z:J=[.string y]:=z;have u:I=[O]:=u;have r:J=[R]:=r;rw[H]at u;rw[z]at r;simp at u r;subst u;subst r;have:=rO x y;simp[Op.equalIn,run_underlying M,Ty.eqv,this]
   ·cases h
  |pair b c =>
   simp only[eqT]at h;split at h
   ·rename_i X M;simp only[BC,CE]at h;have Y:P.fieldsOf t=X:=by simp[Program.fieldsOf,M]
    have u:O=.agg I.toArray:=u;have r:R=.agg J.toArray:=r;subst u;subst r;rw[run_equalIn_struct (P:=P) w d t _ _ (by rw[Y];exact M) h.1,Y];have:=x4 (P:=P) (λb t hb=>x5 n b t hb d (by omega)) X.toList 0 (.pair b c) h.2 w G x y [] I [] J rfl rfl H z;simpa using this
   ·cases h
  |unit=>simp[eqT]at h
  |hdr=>simp[eqT]at h
  |list m E e=>simp[eqT]at h
theorem AD {t:TypeId}{a:Ty}(h:eqT P 64 a t=true)(u:a.isAgg=true):EqAt P t a:=by
 intro _ w G x y z r I H;have:=x5 64 a t h Op.maxDepth (by decide) w G x y (.agg z.toArray) (.agg r.toArray) z r (by rw[u];rfl) I (by rw[u];rfl) H;exact this
def wF:Value->Value->Bool
 |.int k n,.int z y=>decide (k=z)&&decide (n=y)
 |.bool b,.bool u=>b==u
 |.string s,.string r=>decide (s.toList=r.toList)
 |.slice none 0 0,.slice none 0 0=>true
 |.pointer none,.pointer none=>true
 |.nilFunc,.nilFunc=>true
 |_,_=>false
def kN:List Value->List Value->Bool
 |[],[]=>true
 |v::y,u::r=>wF v u&&kN y r
 |_,_=>false
theorem zm {v u:Value}(h:wF v u=true):v=u:=by
 unfold wF at h;split at h
 ·simp only[BC,decide_eq_true_eq]at h;rw[h.1,h.2]
 ·rw[eq_of_beq h]
 ·rename_i s r;have:s=r:=by
   have y:=rO s r;rw[beq_toListBytes,of_decide_eq_true h]at y;simpa using y.symm
  rw[this]
 ·rfl
 ·rfl
 ·rfl
 ·cases h
theorem mB:∀ {r us:List Value},kN r us=true->r=us
 |[],[],_=>rfl
 |v::r,u::us,h=>by
  simp only[kN,BC]at h;rw[zm h.1,mB h.2]
 |[],_::_,h=>by simp[kN]at h
 |_::_,[],h=>by simp[kN]at h
def zB (P:Program)(t:TypeId)(agg:Bool)(cs:List Value):Bool :=
 match P.info? t with
 |some i=>match i.zero with
  |some (.agg r)=>agg&&kN r.toList cs
  |some v=>!agg&&kN [v] cs
  |none=>false
 |none=>false
theorem x6 {t:TypeId}{cs:List Value}(h:zB P t true cs=true):dZ P t (.agg cs.toArray):=by
 unfold zB at h;unfold dZ;split at h
 ·rename_i i r;rw[r];split at h
  ·rename_i y u;simp only[Cs]at h;rw[B3,u,<- mB h,Array.toArray_toList]
  ·cases h
  ·cases h
 ·cases h
theorem lG {t:TypeId}{v:Value}(h:zB P t false [v]=true):dZ P t v:=by
 unfold zB at h;unfold dZ;split at h
 ·rename_i i r;rw[r];split at h
  ·cases h
  ·rename_i u _ y;simp only[DA,Cs]at h;have:=mB h;simp only[Cg,and_true]at this;rw[B3,y,this]
  ·cases h
 ·cases h
def kc (P:Program)(n:Nat):List Field->List (Nat×Nat×Bool)->Bool
 |[],[]=>true
 |f::r,(off,k,agg)::u=>BJ f.offset off&&szB P f.type k&&tS P f.type agg&&Cf 0 k&&Cm (off+k) n&&(agg||BJ k 1)&&kc P n r u
 |_,_=>false
def isU8:Ty->Bool
 |.int .u8=>true
 |_=>false
def u8B (P:Program)(E:TypeId):Bool :=
 match P.underlying E with
 |some (.int .u8)=>true
 |_=>false
def tiB (P:Program)(t:TypeId):TI->Bool
 |.int k=>(match P.underlying t with|some (.int k')=>decide (k'=k)|_=>false)&&szB P t 1&&zB P t false [.int k 0]
 |.bool=>(match P.underlying t with|some .bool=>true|_=>false)&&szB P t 1&&zB P t false [.bool false]
 |.str=>(match P.underlying t with|some .string=>true|_=>false)&&szB P t 1&&zB P t false [.string ByteArray.empty]
 |.slice E e r=>(match P.underlying t with|some (.slice E')=>BJ E' E|_=>false)&&szB P t 1&&zB P t false [.slice none 0 0]&&Cf 0 e.cells&&Cf 0 r &&
  szB P E e.cells&&(match P.info? E with | some i=>BJ i.bytes r&&(match i.zero with | some z=>kN z.cells.toList (zeroCells e) | none=>false) | none=>false)&&(!isU8 e||u8B P E)
 |.arr e n=>(match P.underlying t with|some (.array m E)=>BJ m n&&szB P E e.cells&&tS P E e.isAgg|_=>false)&&Cf 0 e.cells&&szB P t (n*e.cells)&&zB P t true (List.replicate n (zeroCells e)).flatten
 |.struct a u=>(match P.underlying t with | some (.struct y)=>kc P a.cells y.toList u | _=>false)&&szB P t a.cells&&zB P t true (zeroCells a)&&a.isAgg&&(!a.flat||eqT P 64 a t)&&!P.eqGuardType P.depth t
 |.ptr=>(match P.underlying t with|some (.pointer _)=>true|_=>false)&&szB P t 1&&zB P t false [.pointer none]
 |.fn=>(match P.underlying t with|some (.func _ _ _)=>true|_=>false)&&szB P t 1&&zB P t false [.nilFunc]
 |.none=>true
theorem qj {n:Nat}:∀ {fs:List Field} {xs:List (Nat×Nat×Bool)},kc P n fs xs=true ->
  fs.mapM (λf=>(P.info? f.type).map λi=>(f.offset,i.size))=some (xs.map λx=>(x.1,x.2.1)) /\
  ∀ (i off k:Nat) (agg:Bool),xs[i]?=some (off,k,agg)->(agg=false->k=1)/\∃ f:Field,fs[i]?=some f/\f.offset=off/\0<k/\off+k<=n/\bQ P f.type k /\
   (P.underlying f.type).map (λd=>match d with|.struct _|.array _ _=>true|_=>false)=some agg
 |[],[],_=>⟨rfl,λi off k agg h=>by simp at h⟩
 |[],_::_,h=>by simp[kc]at h
 |_::_,[],h=>by simp[kc]at h
 |f::fs,(off,k,agg)::xs,h=>by
  simp only[kc,BC,CR]at h;obtain⟨⟨⟨⟨⟨⟨H,h2⟩,h3⟩,h4⟩,h5⟩,u⟩,Y⟩:=h;have H:=BH H;have r:=fK h2;obtain⟨M,R⟩:=qj Y;constructor
  ·unfold bQ at r;cases I:P.info? f.type with
   |none=>rw[I]at r;cases r
   |some i =>
    rw[I]at r;simp only[B3,BA]at r;simp[Cl,I,M,r,H]
  ·intro i y k' z J;cases i with
   |zero =>
    simp at J;obtain⟨rfl,rfl,rfl⟩:=J;refine⟨λO=>?_,f,rfl,H,by simpa[CM]using h4,B6 h5,r,qO h3⟩;rcases u with u|u
    ·rw[O]at u;cases u
    ·exact BH u
   |succ i =>
    obtain⟨q1,f',Z,X⟩:=R i y k' z (by simpa using J);exact⟨q1,f',by simpa using Z,X⟩
theorem Bw {t:TypeId}{i:TI}(h:tiB P t i=true):oK P t i:=by
 cases i with
 |none=>trivial
 |int k =>
  simp only[tiB,BC]at h;obtain⟨⟨r,I⟩,H⟩:=h;split at r
  ·rename_i k' u;rw[of_decide_eq_true r]at u;exact⟨u,fK I,lG H⟩
  ·cases r
 |bool =>
  simp only[tiB,BC]at h;obtain⟨⟨r,I⟩,H⟩:=h;split at r
  ·rename_i u;exact⟨u,fK I,lG H⟩
  ·cases r
 |str =>
  simp only[tiB,BC]at h;obtain⟨⟨r,I⟩,H⟩:=h;split at r
  ·rename_i u;exact⟨u,fK I,lG H⟩
  ·cases r
 |ptr =>
  simp only[tiB,BC]at h;obtain⟨⟨r,I⟩,H⟩:=h;split at r
  ·rename_i e u;exact⟨⟨e,u⟩,fK I,lG H⟩
  ·cases r
 |fn =>
  simp only[tiB,BC]at h;obtain⟨⟨r,I⟩,H⟩:=h;split at r
  ·rename_i x y z u;exact⟨⟨x,y,z,u⟩,fK I,lG H⟩
  ·cases r
 |slice E e a1 =>
  simp only[tiB,BC]at h;obtain⟨⟨⟨⟨⟨⟨⟨r,I⟩,H⟩,Z⟩,M⟩,X⟩,R⟩,J⟩:=h;have a0:e=.int .u8->P.underlying E=some (.int .u8):=by
   intro he;subst he;have J:u8B P E=true:=by simpa[isU8]using J
   unfold u8B at J;split at J
   ·rename_i hq;exact hq
   ·cases J
  split at r
  ·rename_i E' u;rw[BH r]at u;split at R
   ·rename_i ti Y;simp only[BC]at R;obtain⟨h8,h9⟩:=R;split at h9
    ·rename_i z hz;have O:=fK X;unfold bQ at O;rw[Y]at O;simp only[B3,BA]at O;exact⟨u,fK I,lG H,by simpa[CM]using Z,⟨by simpa[CM]using M,a0⟩,ti,z,Y,O,BH h8,hz,mB h9⟩
    ·cases h9
   ·cases R
  ·cases r
 |arr e n =>
  simp only[tiB,BC]at h;obtain⟨⟨⟨r,I⟩,H⟩,Z⟩:=h;split at r
  ·rename_i m E u;simp only[BC]at r;obtain⟨⟨M,X⟩,R⟩:=r;rw[BH M]at u;exact⟨⟨E,u,fK X,qO R⟩,by simpa[CM]using I,fK H,x6 Z⟩
  ·cases r
 |struct a a2 =>
  simp only[tiB,BC,CR,CE]at h;obtain⟨⟨⟨⟨⟨r,I⟩,H⟩,Z⟩,M⟩,X⟩:=h;split at r
  ·rename_i fs u;obtain⟨R,h8⟩:=qj r;refine⟨⟨fs,u,R,λi off n agg hx=>?_⟩,fK I,x6 H,?_,X⟩
   ·obtain⟨q1,f,q2,q3⟩:=h8 i off n agg hx;exact⟨q1,f,by simpa using q2,q3⟩
   ·intro hf;rcases M with M|M
    ·rw[hf]at M;cases M
    ·exact AD M Z hf
  ·cases r
def tlB (P:Program):List (TypeId×TI)->Bool
 |[]=>true
 |x::l=>tiB P x.1 x.2&&tlB P l
theorem gZ:∀ {l:List (TypeId×TI)},tlB P l=true->TOk P (fY l):=by
 intro l h;refine sv ?_;induction l with
 |nil=>simp
 |cons x l u =>
  simp only[tlB,BC]at h;intro y r;rcases BO.1 r with rfl|r
  ·exact Bw h.1
  ·exact u h.2 y r
end
section
variable {P:Program} {T:TypeId->TI}
theorem nE (hT:TOk P T)(a0:P.follows .mixedOrders=true){f:FuncId}{fn:Func}(hf:P.funcs[f]?=some fn)(hn:(fn.name== "runtime.NumGoroutine")=false) {E:TypeId} {e:Ty} {rs:List RK} {r:Bool}
  {R:ab [PK.rd (.list false E e)]->Option (ai rs×ah [PK.rd (.list false E e)])} {R0 A B C:Code} {rid:Nat} {o0 o1:Oper} {d0 q t t':Nat} {x0:Operand} {L:List (Nat×List (Nat×List Coe))} {K:Nat}
  (hb:fn.body=some (.seq R0 (.seq (.seq (.region rid #[o0,o1] false) (.cond (.tmp q) A B)) C))) (b9:o0.guard=none) (d2:o0.op=.move x0) (bx:o1.op=.binOp .eql t (.tmp d0) (.const (.slice none 0 0)) t') (cb:o1.guard=none) (b2:o1.dst=some q)
  {E':TypeId} (ht:P.underlying t=some (.slice E'))
  (a5:(dO fn.ntmps [] (.seq R0 (.seq (.seq (.region rid #[o0,o1] false) (.cond (.tmp q) A B)) C))&&Cm 1 fn.ntmps&&Cm fn.ntmps GH&&qo rs&&dp L [] (.seq R0 (.seq (.seq (.region rid #[o0,o1] false) (.cond (.tmp q) A B)) C)))=true)
  {S1:ab [PK.rd (.list false E e)]->St}
  (c0:∀ x,evK [] T L K R0 (av (dj 0 [PK.rd (.list false E e)] x)) (qm (λs _=>act [] T o0 s (λU=>some (ac U s))) (λ_ _=>none))=some (S1 x))
  (Z:∀ x,one (S1 x) (.tmp d0)=.ro true E e x.1)
  (hF:∀ x,evK [] T L K (.seq (.cond (.tmp q) A B) C) (ac (cj (S1 x) [] q .one [.bool false]) (S1 x)) (cY T [PK.rd (.list false E e)] rs r fn.results.toList)=R x)
  (cu:∀ x y,x.1=[]->R x=some y->evK [] T L K (.seq (.cond (.tmp q) A B) C) (ac (cj (S1 x) [] q .one [.bool true]) (S1 x)) (cY T [PK.rd (.list false E e)] rs r fn.results.toList)=some y) :
  bP P ⟨f,[PK.rd (.list false E e)],rs,r,R⟩:=by
 refine⟨dn hf hn hb,λw ro x vs u y Y c5 cp hy=>?_⟩;simp only[BC]at a5;obtain⟨⟨⟨⟨h1,h2⟩,h3⟩,h4⟩,h5⟩:=a5;have h2:=B6 h2;have h3:=B6 h3;have hV:ax (ge w ro [PK.rd (.list false E e)] vs u fn.ntmps):=⟨λk hk=>c5 k hk,h3⟩;have b3:=vn (P:=P) (ro:=ro) Y cp h2 h3;have hnoΓ:∀ c∈([]:List Ctr),bP P c:=by simp
 have a9:∀ z∈(ge w ro [PK.rd (.list false E e)] vs u fn.ntmps).fixb,z.1∈([]:List Nat):=λz hz=>jY (ps:=[PK.rd (.list false E e)]) hz
 have O:∀ z∈(ge w ro [PK.rd (.list false E e)] vs u fn.ntmps).fixt,z.1∈([]:List Nat):=λz hz=>jX (ps:=[PK.rd (.list false E e)]) hz
 simp only[dO,BC]at h1;simp only[dp,BC]at h5;obtain⟨c1,⟨bl,c6⟩,d1⟩:=h1;obtain⟨c4,⟨_,cc⟩,cx⟩:=h5;refine calls_of_wp hf hb ?_;rw[Cy];generalize c3:bodyPost P fn (tu ⟨f,[PK.rd (.list false E e)],rs,r,R⟩ w ro vs u y)=Q;have hQ:∀ ex s1,cY T [PK.rd (.list false E e)] rs r fn.results.toList ex s1=some y->∀ a H,Rel P (ge w ro [PK.rd (.list false E e)] vs u fn.ntmps) s1 a H->Q (exOf ex) a H:=by
  intro ex s1 b5 a' H J;obtain⟨cw,v,X,a6⟩:=x3 (c:=⟨f,[PK.rd (.list false E e)],rs,r,R⟩) hT h4 hV Y h2 b5 J;have c2:a'.defers=[]:=by obtain⟨W,J⟩:=J;exact J.df
  subst c3;rcases cw with rfl|rfl <;> exact⟨c2,v,X,a6⟩
 have b1:∀ (b:Bool),evK [] T L K (.seq (.cond (.tmp q) A B) C) (ac (cj (S1 x) [] q .one [.bool b]) (S1 x)) (cY T [PK.rd (.list false E e)] rs r fn.results.toList)=some y ->
   ∀ a H,Rel P (ge w ro [PK.rd (.list false E e)] vs u fn.ntmps) (ac (cj (S1 x) [] q .one [.bool b]) (S1 x)) a H->(Code.cond (.tmp q) A B).wp P (Exit.then (C.wp P Q) Q) a H:=by
  intro b b0 a H J;refine si hV hT hnoΓ a0 a9 (nt:=fn.ntmps) (fix:=[]) rfl O (.cond (.tmp q) A B) (by simp only[dO,BC];exact c6) (by simp only[dp,BC];exact cc) _ _ y _ b0 (λex s1 I a H J=>?_) a H J;cases ex with
  |normal=>exact si hV hT hnoΓ a0 a9 (nt:=fn.ntmps) (fix:=[]) rfl O C d1 cx s1 _ y Q I hQ a H J
  |exit b4=>exact hQ (.exit b4) s1 I a H J
  |ret=>exact hQ .ret s1 I a H J
 have a4:∀ (i:Nat) (o:Oper),(#[o0,o1]:Array Oper)[i]?=some o->lr fn.ntmps [] #[o0,o1] o=true:=λi o hi=>by
  simp only[BX]at bl;exact bl o (by simpa using Ci hi)
 refine wp_seq (si hV hT hnoΓ a0 a9 (nt:=fn.ntmps) (fix:=[]) rfl O R0 c1 c4 _ _ (S1 x) _ (c0 x) (λex s0 I a H J=>?_) _ _ b3);cases ex with
 |exit b4=>cases I
 |ret=>cases I
 |normal =>
  have I:act [] T o0 s0 (λU=>some (ac U s0))=some (S1 x):=I;rw[tC]at I;obtain⟨U,hU,I⟩:=B8.1 I;simp only[BA]at I;refine wp_seq (wp_seq (wp_region ?_));have a2:C9 (#[o0,o1]:Array Oper).size=[0,1]:=rfl;rw[a2,wpOps_cons];refine wC hV hT hnoΓ (ops:=#[o0,o1]) (i:=0) (o:=o0) rfl (mw rfl O (a4 0 o0 rfl)) (λj d3 hg=>by rw[b9]at hg;cases hg) (U:=U) (by unfold mt;rw[b9];exact hU) J (λa1 w1 M=>?_);rw[I]at M;rw[wpOps_cons];obtain⟨W1,M⟩:=M;have a3:bM (ge w ro [PK.rd (.list false E e)] vs u fn.ntmps) o1:=mw rfl O (a4 1 o1 rfl);obtain⟨h7,_,_,_,_⟩:=bo M (.tmp d0) (by rw[Z x];simp);rw[Z x]at h7;obtain⟨A',bb,hv,_,cy⟩:=h7;have hv:a1.eval (.tmp d0)=.slice A' x.1.length bb:=by simpa using hv
  have ba:A'=none->x.1=[]:=λhA=>by
   cases hx:x.1 with
   |nil=>rfl
   |cons y ys =>
    obtain⟨g,o,bn,_⟩:=cy (by rw[hx];simp);rw[hA]at bn;cases bn
  have b0:evK [] T L K (.seq (.cond (.tmp q) A B) C) (ac (cj (S1 x) [] q .one [.bool A'.isNone]) (S1 x)) (cY T [PK.rd (.list false E e)] rs r fn.results.toList)=some y:=by
   cases hA:A' with
   |none=>exact cu x y (ba hA) hy
   |some ad=>exact (hF x).trans hy
  have X:(execOp a1.eval o1).run P w1=.ok (.value (.bool A'.isNone)) w1:=by
   have:=Lib.run_eql_slice_nil (P:=P) w1 t E' A' x.1.length bb 0 0 ht;have hc:a1.eval (.const (.slice none 0 0))=.slice none 0 0:=rfl;simp[execOp,bx,hv,hc,eqGuard,this]
  unfold wpOp;have hi:(#[o0,o1]:Array Oper)[1]?=some o1:=rfl;simp only[hi];have hw:Region.wanted o1 (yielded #[o0,o1] a1.tmps)=true:=by simp[Region.wanted,cb]
  rw[if_pos hw];refine .inl (dV X ?_);rw[b2];show Exit.then _ _ _ _ _;exact b1 _ b0 _ _ (M.putLs hV q (a3 q b2).1 (a3 q b2).2 _ .one [.bool A'.isNone] (.bool A'.isNone) [.bool A'.isNone] (CJ _) rfl ⟨⟨rfl,id,rfl⟩,trivial⟩)
end
open Go.ChangeShapes Go.WideShapes
section
variable {H:Type} {enc:TypeId×Value->H} {P:Program}
theorem mE (O:laidOutB P=true){W W':World}{J:Nat->Bool}:∀ {y:List TypeId} {z:List Value} {ds:List (DataW H)} {ps:List MemPlace},(∀ t∈y,P.readableRec t=true/\t<P.types.size) ->
  DataW.TrodAll enc P W 0 (λ_=>true) true y z ds ps->(∀ x∈ps,W.sameAt W' x)->(∀ x∈ps,J x.block=true)->DataW.TrodAll enc P W' 0 J true y z ds ps
 |[],[],[],_,_,h,_,_=>h
 |[],[],_::_,_,_,h,_,_=>h.elim
 |[],_::_,_,_,_,h,_,_=>h.elim
 |_::_,[],_,_,_,h,_,_=>h.elim
 |_::_,_::_,[],_,_,h,_,_=>h.elim
 |t::y,v::z,d::ds,ps,I,⟨p,q,R,Z,e⟩,M,u=>by
  subst e;refine⟨p,q,WideElems.Trod_stays O (I t (BG ..)).1 (I t (BG ..)).2 R (λx r=>M x (BD _ r)) (λx r=>u x (BD _ r)),
   mE O (λY X=>I Y (BF _ X)) Z (λx r=>M x (BE _ r)) (λx r=>u x (BE _ r)),rfl⟩
theorem rW (hl:laidOutB P=true){f:Func}{s:ChangeSpec}{y X u Y:Bool}{W W':World}{z:Array Value}{ds gs:List (DataW H)}{r:List MemPlace}
  (hW:DataW.Whole enc P f.params.toList s.vars y W z.toList ds gs r) (J:s.vars=[]) (hb:Below W.heap.size W W') (O:∀ t∈f.params.toList,P.readableRec t=true/\t<P.types.size)
  {tb:TypeId} (Z:f.resultTypes=#[tb]) (I:P.underlying tb=some .bool) (a2:(s.fn H (ds++gs)).results=[.lit (.bool true)]) (a0:(s.fn H (ds++gs)).args=ds) (a6:(s.fn H (ds++gs)).vars=[]) :
  s.post enc P f y X u Y W z (.bool true) W':=by
 have R:∀ p∈r,p.block<W.heap.size:=λp hp=>by simpa using hW.lt p hp
 have a5:=hW;obtain⟨p,q,hA,hV,e,hz,hn⟩:=hW;rw[J]at hV;obtain⟨rfl,rfl⟩:=trodVars_none hV;simp only[List.append_nil]at e;subst e;have a1:∀ x∈r,W.sameAt W' x:=λx hx=>hb.same (R x hx)
 have a4:(Value.bool true).resultList f.resultTypes.size=[.bool true]:=by rw[Z];rfl
 have hr:∀ (b:Nat) (M:Nat->Bool) (hd:Bool),DataW.TrodAll enc P W' b M hd f.resultTypes.toList ((Value.bool true).resultList f.resultTypes.size) (s.fn H (ds++[])).results []:=by
  intro b M hd;rw[a4,a2,Z];exact trodAll_mk1 (shut_bool I true)
 have ha:∀ (M:Nat->Bool),(∀ x∈r,M x.block=true)->DataW.TrodAll enc P W' 0 M true f.params.toList z.toList (s.fn H (ds++[])).args r:=by
  intro M a3;rw[a0];exact mE hl O hA a1 a3
 have hv:∀ (M:Nat->Bool),DataW.TrodVars enc P W' M s.vars (s.fn H (ds++[])).vars []:=by
  intro M;rw[J,a6];rfl
 refine⟨ds,[],r,[],r,[],a5,hr _ _ _,ha _ (λx hx=>by simpa using R x hx),hv _,hb.frame _,λ_=>⟨ok_one Z rfl (okWide_bool_mk I true),_,_,([]++r)++[],⟨[]++r,[],trodAll_append (ha _ (λ_ _=>rfl)) (hr _ _ _),hv _,rfl,?_,?_⟩,?_⟩⟩
 ·intro b off hp;have hp:MemPlace.cell b off∈r:=by simpa using hp
  rw[hb.frozen (p:=⟨b,off,none⟩) (R _ hp)];exact hz b off hp
 ·intro a9;have:=hn a9;simpa using this
 ·intro x hx _;simpa using hx
end
section
variable {H:Type} {enc:TypeId×Value->H} {P:Program} {w:World} {base:Nat} {spare:Nat->Bool} {held:Bool}
def shF (P:Program)(g:Ty->TypeId->Bool):List Field->Nat->Ty->Bool
 |[],_,_=>false
 |[f],off,b=>BJ f.offset off&&BJ (P.cellsOf f.type) b.cells&&g b f.type
 |f::r,off,.pair b c=>BJ f.offset off&&BJ (P.cellsOf f.type) b.cells&&g b f.type&&shF P g r (off+b.cells) c
 |_,_,_=>false
def shT (P:Program):Nat->Ty->TypeId->Bool
 |0,_,_=>false
 |n+1,a,t=>match a with
  |.int k=>(match P.underlying t with|some (.int k')=>decide (k'=k)|_=>false)
  |.bool=>(match P.underlying t with|some .bool=>true|_=>false)
  |.str=>(match P.underlying t with|some .string=>true|_=>false)
  |.pair b c=>(match P.underlying t with|some (.struct fs)=>shF P (shT P n) fs.toList 0 (.pair b c)&&BJ (P.cellsOf t) (b.cells+c.cells)|_=>false)
  |.list _ E e=>(match P.underlying t with|some (.slice E')=>BJ E' E&&BJ (P.cellsOf E) e.cells&&Cf 0 e.cells&&shT P n e E|_=>false)
  |.unit=>false
  |.hdr=>false
def Sm:(a:Ty)->a.den->Prop
 |.int k,n=>(Lit.int k n).wf=true
 |.pair a b,x=>Sm a x.1/\Sm b x.2
 |.list _ _ e,r=>r.length<=maxLen/\∀ x∈(r:List e.den),Sm e x
 |.bool,_=>True
 |.str,s=>s.size<=maxLen
 |.unit,_=>True
 |.hdr,_=>True
theorem kO {α β:Type}{f:α->Option β}:∀ (l:List α) (r:List β),l.mapM f=some r->r.length=l.length/\∀ (i:Nat) (x:α),l[i]?=some x->∃ y,f x=some y/\r[i]?=some y
 |[],r,h=>by
  simp at h;subst h;exact⟨rfl,λi x O=>by simp at O⟩
 |x::l,r,h=>by
  rw[Cl]at h;cases z:f x with
  |none=>rw[z]at h;cases h
  |some y =>
   rw[z]at h;cases I:l.mapM f with
   |none=>rw[I]at h;cases h
   |some R =>
    rw[I]at h;cases h;obtain⟨X,M⟩:=kO l R I;refine⟨by simp[X],λi u J=>?_⟩;cases i with
    |zero=>simp at J;subst J;exact⟨y,z,rfl⟩
    |succ i=>simpa using M i u (by simpa using J)
theorem rP {a:Addr}{n:Nat}{cs:List Value}(h:w.cells? base a n=some cs):base<=a.block/\cs.length=n/\∀ i u,cs[i]?=some u->w.cell? (a.add i)=some u:=by
 unfold World.cells? at h;split at h
 ·rename_i J;obtain⟨I,R⟩:=kO _ _ h;refine⟨J,by simpa using I,λi u z=>?_⟩;have O:i<n:=by have:=(BK.1 z).1;rw[I]at this;simpa using this
  obtain⟨y,M,r⟩:=R i i (by simp[O]);rw[z]at r;cases r;exact M
 ·cases h
theorem oF {g:Ty->TypeId->Bool}{rd:TypeId->List Value->Option (DataW H×List MemPlace)}
  (Y:∀ b t,g b t=true->∀ cs d,rd t cs=some d->∃ x:b.den,Rd w (λk=>k<w.heap.size) b x cs/\Sm b x) :
  ∀ (fs:List Field) (off:Nat) (b:Ty),shF P g fs off b=true->∀ (cs:List Value),cs.length=off+b.cells ->
   (∀ f∈fs,∃ d,rd f.type ((cs.drop f.offset).take (P.cellsOf f.type))=some d)->∃ x:b.den,Rd w (λk=>k<w.heap.size) b x (cs.drop off)/\Sm b x
 |[],_,_,h=>by simp[shF]at h
 |[f],off,b,h=>by
  intro cs u M;simp only[shF,BC]at h;obtain⟨⟨r,I⟩,Z⟩:=h;have r:=BH r;have I:=BH I;obtain⟨d,J⟩:=M f (BG ..);rw[r,I,List.take_of_length_le (by simp;omega)]at J;exact Y b f.type Z _ d J
 |f::z::fs,off,.pair b c,h=>by
  intro cs u M;simp only[shF,BC]at h;obtain⟨⟨⟨r,I⟩,Z⟩,h4⟩:=h;have r:=BH r;have I:=BH I;have u:cs.length=off+(b.cells+c.cells):=u;obtain⟨d,J⟩:=M f (BG ..);rw[r,I]at J;obtain⟨x,hx,R⟩:=Y b f.type Z _ d J;obtain⟨y,hy,O⟩:=oF Y (z::fs) (off+b.cells) c h4 cs (by omega) (λf0 X=>M f0 (BF _ X));refine⟨(x,y),⟨_,_,?_,hx,hy⟩,R,O⟩;rw[<- Cj,List.take_append_drop]
 |f::z::fs,off,.int _,h=>by simp[shF]at h
 |f::z::fs,off,.bool,h=>by simp[shF]at h
 |f::z::fs,off,.str,h=>by simp[shF]at h
 |f::z::fs,off,.unit,h=>by simp[shF]at h
 |f::z::fs,off,.list _ _ _,h=>by simp[shF]at h
 |f::z::fs,off,.hdr,h=>by simp[shF]at h
theorem oG {β:Type}(Q:Nat->β->Prop):∀ (n:Nat),(∀ i,i<n->∃ x,Q i x)->∃ u:List β,u.length=n/\∀ i x,u[i]?=some x->Q i x
 |0,_=>⟨[],rfl,λi x h=>by simp at h⟩
 |n+1,h=>by
  obtain⟨u,I,M⟩:=oG Q n (λi J=>h i (by omega));obtain⟨x,O⟩:=h n (by omega);refine⟨u++[x],by simp[I],λi y r=>?_⟩;by_cases J:i<n
  ·rw[B4 (by omega)]at r;exact M i y r
  ·have z:i<(u++[x]).length:=(BK.1 r).1;have:i=n:=by simp at z;omega
   subst this;rw[BZ (by omega),I,Nat.sub_self]at r;simp at r;subst r;exact O
theorem qP:∀ (n:Nat) (a:Ty) (t:TypeId),shT P n a t=true->∀ (I:Nat) (cs:List Value) (d:DataW H×List MemPlace),DataW.trod enc P w base spare held I t cs=some d ->
    ∃ x:a.den,Rd w (λk=>k<w.heap.size) a x cs/\Sm a x
  |0,_,_,h=>by simp[shT]at h
  |n+1,a,t,h=>by
    intro I cs d r;cases I with
    |zero=>simp[DataW.trod]at r
    |succ I =>
      cases a with
      |int k =>
        simp only[shT]at h;split at h
        · rename_i k' O
          have hk:=of_decide_eq_true h;subst hk;simp only[DataW.trod,O]at r;split at r <;> first|(rename_i M;cases M;done)|skip
          all_goals first
            | (rename_i k1 k2 m J
               cases J;split at r
               · rename_i hw
                 obtain⟨rfl,hw⟩:=hw;exact⟨m,rfl,hw⟩
               · cases r)
            |cases r
        · cases h
      |bool =>
        simp only[shT]at h;split at h
        · rename_i O
          simp only[DataW.trod,O]at r;split at r <;> first|(rename_i M;cases M;done)|skip
          all_goals first
            |(rename_i b J;exact⟨b,rfl,trivial⟩)
            |cases r
        · cases h
      |str =>
        simp only[shT]at h;split at h
        · rename_i O
          simp only[DataW.trod,O]at r;split at r <;> first|(rename_i M;cases M;done)|skip
          all_goals first
            | (rename_i b J
               split at r
               · rename_i hb
                 exact⟨b,rfl,hb⟩
               · cases r)
            |cases r
        · cases h
      |unit=>simp[shT]at h
      |hdr=>simp[shT]at h
      |pair b c =>
        simp only[shT]at h;split at h
        · rename_i fs O
          simp only[BC]at h;obtain⟨h1,h2⟩:=h;have h2:=BH h2;simp only[DataW.trod,O]at r;split at r
          · rename_i a2
            simp only[BI]at r;obtain⟨ys,b5,_⟩:=r;obtain⟨h3,h4⟩:=kO _ _ b5;have:=oF (w:=w) (rd:=DataW.trod enc P w base spare held I) (λb t hb cs d r=>qP n b t hb I cs d r) fs.toList 0 (.pair b c) h1 cs (by rw[a2,h2,CK];rfl) (λf hf=>by
              obtain⟨i,hi,e⟩:=Cr hf;obtain⟨y,h5,_⟩:=h4 i f (by rw[BR hi,e]);exact⟨y,h5⟩)
            simpa using this
          · cases r
        · cases h
      |list m E e =>
        simp only[shT]at h;split at h
        · rename_i E' O
          simp only[BC]at h;obtain⟨⟨⟨h1,h2⟩,h3⟩,h4⟩:=h;have h1:=BH h1;subst h1;have h2:=BH h2;have h3:0<e.cells:=by simpa[CM]using h3
          simp only[DataW.trod,O]at r;split at r <;> first|(rename_i M;cases M;done)|skip
          all_goals first
            |cases r;done
            |skip
          · exact⟨[],Rd.nil w _ m _ e,C5 _,by simp⟩
          · rename_i E2 R a1 b0 J
            cases J;split at r
            · rename_i hc
              obtain⟨b1,b9,bb⟩:=hc;obtain⟨bl,a4,_⟩:=B8.1 r;obtain⟨h5,h6⟩:=kO _ _ a4;have b4:∀ i,i<a1->∃ x:e.den,∃ c,w.cells? base (R.add (i*e.cells)) e.cells=some c/\Rd w (λk=>k<w.heap.size) e x c/\Sm e x:=by
                intro i hi;obtain⟨y,h7,_⟩:=h6 i i (by simp[hi]);obtain⟨c,h8,h9⟩:=B8.1 h7;rw[h2]at h8;obtain⟨x,hx,a9⟩:=qP n e _ h4 I c y h9;exact⟨x,c,h8,hx,a9⟩
              obtain⟨xs,b2,X⟩:=oG (λi (x:e.den)=>∃ c,w.cells? base (R.add (i*e.cells)) e.cells=some c/\Rd w (λk=>k<w.heap.size) e x c/\Sm e x) a1 b4;refine⟨xs,⟨some R,b0,by rw[b2],by omega,λhp=>?_⟩,by omega,λx hx=>?_⟩
              · have b3:0<xs.length:=hp
                obtain⟨c,Y,a3,_⟩:=X 0 xs[0] (BR b3);obtain⟨_,ba,a0⟩:=rP Y;have h0:0<c.length:=by omega
                have z:=a0 0 c[0] (BR h0);have e0:(R.add (0*e.cells)).add 0=R:=by simp[Addr.add]
                rw[e0]at z;have Z:R.spot=none/\R.block<w.heap.size:=by
                  unfold World.cell? at z;split at z
                  · rename_i hh
                    split at z
                    · cases z
                    · rename_i hs
                      refine⟨by simpa using hs,(CW.1 hh).1⟩
                  · cases z
                obtain⟨g,o,sp⟩:=R;obtain⟨a5,a6⟩:=Z;simp only at a5 a6;subst a5;refine⟨g,o,rfl,a6,λj x hj=>?_⟩;obtain⟨c,Y,a3,_⟩:=X j x hj;obtain⟨_,_,a0⟩:=rP Y;refine⟨c,a3,λi u hi=>?_⟩;have:=a0 i u hi
                rwa [eT,eT]at this
              · obtain⟨j,hj,e1⟩:=Cr hx
                obtain⟨c,_,_,hs⟩:=X j x (by rw[BR hj,e1]);exact hs
            · cases r
        · cases h
end
section
variable {H:Type} {enc:TypeId×Value->H} {P:Program} {w:World}
theorem zn {n:Nat}{a:Ty}{t:TypeId}(r:shT P (n+1) a t=true){v:Value}{d:DataW H}{p:List MemPlace}(M:DataW.Trod enc P w 0 (λ_=>true) true t v d p){base:Nat}(u:DC P w .any base t v) :
  ∃ x:a.den,(∃ I,db a.isAgg v I/\Rd w (λk=>k<w.heap.size) a x I)/\Sm a x:=by
 obtain⟨z,M⟩:=M;obtain⟨x,X,J⟩:=qP (n+1) a t r z _ _ M;refine⟨x,⟨v.cells.toList,?_,X⟩,J⟩;cases a with
 |int k =>
  simp only[shT]at r;split at r
  ·rename_i k' y;obtain⟨n,rfl⟩:=okWide_int y u;rfl
  ·cases r
 |bool =>
  simp only[shT]at r;split at r
  ·rename_i y;obtain⟨n,rfl⟩:=okWide_bool y u;rfl
  ·cases r
 |str =>
  simp only[shT]at r;split at r
  ·rename_i y;obtain⟨n,rfl⟩:=okWide_string y u;rfl
  ·cases r
 |list m E e =>
  simp only[shT]at r;split at r
  ·rename_i Z y;obtain⟨A,O,R,rfl⟩:=okWide_slice y u;rfl
  ·cases r
 |unit=>simp[shT]at r
 |hdr=>simp[shT]at r
 |pair b c =>
  simp only[shT]at r;split at r
  ·rename_i Y y;obtain⟨I,rfl,_⟩:=okWide_struct y u;show Value.agg I=.agg (Value.agg I).cells.toList.toArray;simp[Value.cells]
  ·cases r
def Sms:(as:List Ty)->ab (as.map .rd)->Prop
 |[],_=>True
 |a::as,x=>Sm a x.1/\Sms as x.2
def tT (P:Program):List Ty->List TypeId->Bool
 |[],[]=>true
 |a::as,t::r=>shT P 64 a t&&tT P as r
 |_,_=>false
theorem rQ {pr:Nat->Prop}:∀ (as:List Ty) (z:List TypeId) (u:List Value) (ds:List (DataW H)) (ps:List MemPlace),tT P as z=true->DataW.TrodAll enc P w 0 (λ_=>true) true z u ds ps ->
  (∃ r,∀ (j:Nat) (t:TypeId) (v:Value),z[j]?=some t->u[j]?=some v->DC P w .any r t v)->∃ x:ab (as.map .rd),c9 P w (λk=>k<w.heap.size) pr (as.map .rd) x u (as.map λ_=>[])/\Sms as x
 |[],[],[],[],_,_,_,_=>⟨(),⟨rfl,rfl⟩,trivial⟩
 |[],[],[],_::_,_,_,h,_=>h.elim
 |[],[],_::_,_,_,_,h,_=>h.elim
 |[],_::_,_,_,_,h,_,_=>by simp[tT]at h
 |_::_,[],_,_,_,h,_,_=>by simp[tT]at h
 |_::_,_::_,[],_,_,_,h,_=>h.elim
 |_::_,_::_,_::_,[],_,_,h,_=>h.elim
 |a::as,t::z,v::u,d::ds,ps,O,⟨p,q,R,h2,_⟩,⟨r,I⟩=>by
  simp only[tT,BC]at O;obtain⟨x,Y,M⟩:=zn (n:=63) O.1 R (I 0 t v rfl rfl);obtain⟨y,X,J⟩:=rQ as z u ds q O.2 h2 ⟨r,λj t' v' Z h4=>I (j+1) t' v' (by simpa using Z) (by simpa using h4)⟩;exact⟨(x,y),⟨v,u,[],_,rfl,rfl,⟨rfl,Y⟩,X⟩,M,J⟩
theorem zo (tys:List Ty):(tys.map λ_=>([]:List Nat)).flatten=[]:=by
 induction tys with
 |nil=>rfl
 |cons a tys r=>simp
theorem x7 {f:FuncId}{tys:List Ty}{y:Bool}{I:ab (tys.map PK.rd)->Option (ai [.v .bool]×ah (tys.map PK.rd))}(hs:bP P ⟨f,tys.map .rd,[.v .bool],y,I⟩){x:ab (tys.map .rd)}{vs:List Value}{o:ah (tys.map .rd)}
  (hx:c9 P w (λk=>k<w.heap.size) (λk=>k<w.heap.size) (tys.map .rd) x vs (tys.map λ_=>[])) (hd:I x=some ((true,()),o)):Calls P f vs.toArray w (λe w'=>e=.returned (.bool true)/\Below w.heap.size w w'):=by
 have R:=zo tys;have:=hs.2 w (λk=>k<w.heap.size) x vs _ _ (hx.mono (λ_ h=>h) (λk O=>⟨O,by rw[R];simp⟩)) (λk O=>⟨O,by rw[R];simp⟩) (by rw[R];exact CY) hd;refine this.mono λe w' hp=>?_
 obtain⟨v,us,N,a3,a5,rfl,r,a0,Y,X,a1,Z,_,_,M,_,_⟩:=hp;refine⟨?_,⟨Y,X,a1,a0,λk O=>Z k O (by rw[R];simp)⟩⟩;obtain⟨u,a4,b,a2,e1,e2,⟨cs,z,J⟩,e3,e4⟩:=M;subst e3;subst e1;have r:v=u:=r;subst r;have z:cs=[v]:=z;have J:cs=[.bool true]:=J.1;rw[z]at J;simp only[Cg,and_true]at J;rw[J]
end
end Go.Proofs.YtadlacffdemoiaaGreatEv
