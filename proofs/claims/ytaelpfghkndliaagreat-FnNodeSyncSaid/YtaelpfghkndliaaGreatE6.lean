/- One operation looks at some slots alone. -/
import Derived.Test.YtaelpfghkndliaaGreatE3
import Derived.Laws.StructEq
import Derived.Lib.SliceRun
import Derived.ProofKit
set_option linter.unusedVariables false
set_option linter.unusedSimpArgs false
open Array renaming getElem?_eq_getElem->BM,getD_eq_getD_getElem?->BN,replicate->Bx,all_eq_true_iff_forall_mem->CB,getElem?_eq_some_iff->CK,getElem?_append_left->CL,getElem?_replicate->CR,mem_of_getElem?->CW,length_toList->Cc,mem_append->Co
open Bool renaming and_eq_true->BC,not_eq_true'->Bz,or_eq_true->CF,false_eq_true->CI,and_false->CJ,and_true->CQ,true_and->Cg,not_false->Cw
open Classical renaming byContradiction->Bq
open Go.ByteArray renaming toList_eq->Ce
open Go.Result renaming andThen_ok->B6
open Go.Sem renaming run_bind->CC,run_pure->Cl
open Go.Value renaming okWide->Cy
open List renaming mem_append->BB,mem_append_left->BD,mem_append_right->BE,mem_cons_of_mem->BF,mem_cons_self->BG,getElem?_eq_some_iff->BK,mem_map->BL,mem_cons->BO,getD_eq_getElem?_getD->BP,flatten_cons->BQ,getElem?_eq_getElem->BR,mem_flatMap->BT,count_append->BU,mem_singleton_self->BV,count_pos_iff->BW,all_eq_true->BX,map_cons->BY,getElem?_append_right->BZ,getElem?_append_left->Bp,append_assoc->Bs,nil_append->Bu,mem_singleton->Bv,nodup_cons->Bw,length_cons->B4,nodup_append->B5,mem_filter->B9,any_eq_true->CE,map_append->CG,count_cons->CH,nodup_nil->CM,count_eq_zero->CN,any_eq_false->CO,all_cons->CP,getElem?_cons_succ->CS,getElem?_eq_none->CV,drop_drop->CX,mapM_cons->CZ,map_congr_left->Cb,countP_eq_zero->Cd,getElem_of_mem->Cf,set_cons_succ->Ch,find?_eq_none->Cj,getElem?_map->Ck,size_toArray->Cm,mem_toArray->Cn,countP_cons->Cp,foldl_cons->Ct,range->Cv,map_nil->Cx
open List.cons renaming injEq->CU
open Nat renaming eq_of_beq_eq_true->BH,beq->BJ,le_of_ble_eq_true->Br,lt_succ_self->B7,zero_add->B8,blt_eq->CA,blt->CT,le_refl->CY,ble->Ca,lt_of_lt_of_le->Ci,zero_le->Cr,strongRecOn->Cu
open Option renaming map_eq_some_iff->BI,map_some->Bo,bind_eq_some_iff->Bt,bind_assoc->By,bind_some->B3,bind_none->CD,getD_some->Cq
open Option.some renaming injEq->BA,inj->Cs
open Prod.mk renaming injEq->BS
namespace Go.Proofs.YtaelpfghkndliaaGreatEv
open Go Go.RowKit
section
variable {P:Program} {V:Env} {Γ:List Ctr} {T:TypeId->TI} {st st':St} {o:Oper} {R:Type} {κ:Upd->Option R} {r:R}
theorem gz {α β:Type}(b:Bool)(x y:Option α)(f:α->Option β):(bif b then x else y).bind f=bif b then x.bind f else y.bind f:=by cases b <;> rfl
theorem wg {b:Option (Bool×Nat×Nat)}{U:Upd}:jN st b U κ=(jN st b U some).bind κ:=by
 unfold jN;split
 ·split
  ·simp only[By];congr 1;funext y;split <;> rfl
  ·rfl
 ·rfl
theorem wh {d:Nat}{f:FuncId}{xs:List (aG×List Leaf)}:jk Γ st d f xs κ=(jk Γ st d f xs some).bind κ:=by
 unfold jk;cases lG Γ f with
 |none=>rfl
 |some c =>
  simp only[gy,By];congr 1;funext u;cases oG Γ (ac u.1 st) c.ps u.2.1 with
  |none=>rfl
  |some g =>
   simp only[gz,By,CD];congr 2;funext y;exact wg
theorem mz {z:St}{H:Upd}{d:Nat}{E:TypeId}{e:Ty}{u:Nat}{p:Bool}{xs:List e.den}{ks:List (Nat×Nat)}{y:Leaf}:dU st z H d E e u p xs ks y κ=(dU st z H d E e u p xs ks y some).bind κ:=by
 unfold dU;split
 ·simp only[gz,CD,B3]
 ·rfl
theorem tx {z:Upd}{d:Nat}{E:TypeId}{e:Ty}{u:Nat}{x y:Leaf}:eo st z d E e u x y κ=(eo st z d E e u x y some).bind κ:=by
 unfold eo;split
 ·split
  ·rw[gz,<- mz];rfl
  ·rfl
 ·exact mz
 ·rfl
theorem tz {d:Nat}{E:TypeId}{e:Ty}{u:Nat}{x y:Leaf}:iu st d E e u x y κ=(iu st d E e u x y some).bind κ:=by
 unfold iu;simp only[gX,gz,By,<- tx]
theorem nh {r j i off n:Nat}{p:Bool}{E:TypeId}{e:Ty}{xs:List e.den}{h:Option (Nat×Nat)}{ls:List Leaf}:gE st r j i off n p E e xs h ls κ=(gE st r j i off n p E e xs h ls some).bind κ:=by
 unfold gE;simp only[By];congr 1;funext u;split
 ·rw[gz];congr 1;split
  ·rfl
  ·simp only[gz,B3,CD]
 ·rfl
theorem tA:act Γ T o st κ=(act Γ T o st some).bind κ:=by
 cases u:o.op <;> simp only[act,wrU,u] <;> (repeat' split) <;>
  (try simp only[gz,By,CD,B3]) <;> (try rfl) <;> (try exact wh) <;> (try (rw[tz];done)) <;> (try (rw[nh];done)) <;> (try (rw[<- nh];done))
theorem bh {q:Nat}(h:st' q=st q):∀ (U:Upd),ac U st' q=ac U st q
 |[]=>h
 |(r,c)::U=>by simp only[ac,bh h U]
theorem dS {x:Operand}(h:∀ t,x=.tmp t->st' t=st t):au st' x=au st x:=by
 cases x with
 |tmp t=>simp only[au,h t rfl]
 |_=>rfl
theorem dD {x:Operand}(h:∀ t,x=.tmp t->st' t=st t):one st' x=one st x:=by
 unfold one;rw[dS h]
theorem k7:∀ (y u:List Leaf),aw (y++u)=aw y++aw u
 |[],_=>rfl
 |l::y,u=>by cases l <;> simp[aw,k7 y u]
theorem aK (l:Leaf)(ls:List Leaf):aw (l::ls)=aw [l]++aw ls:=k7 [l] ls
theorem fA:∀ (n:Nat) (ls:List Leaf) (q:Nat),q∈aw (ls.drop n)->q∈aw ls
 |0,_,_,h=>h
 |n+1,[],_,h=>h
 |n+1,l::ls,q,h=>by rw[aK];exact BE _ (fA n ls q h)
theorem rx:∀ (n:Nat) (ls:List Leaf) (q:Nat),q∈aw (ls.take n)->q∈aw ls
 |0,_,_,h=>by simp[aw]at h
 |n+1,[],_,h=>by simp[aw]at h
 |n+1,l::ls,q,h=>by
  rw[List.take_succ_cons,aK,BB]at h;rw[aK,BB];exact h.imp id (rx n ls q)
theorem qG:∀ {ls:List Leaf} {k:Nat} {l:Leaf},ls[k]?=some l->∀ q∈aw [l],q∈aw ls
 |[],_,_,h,_,_=>by simp at h
 |y::ls,0,l,h,q,u=>by simp at h;subst h;rw[aK];exact BD _ u
 |y::ls,k+1,l,h,q,u=>by rw[aK];exact BE _ (qG (by simpa using h) q u)
theorem jB {ks:List (Nat×Nat×Nat)}{ep:Nat}(h:∀ q∈EPO::ks.map (·.1),st' q=st q):bj st' ks ep=bj st ks ep:=by
 unfold bj;rw[h EPO (BG ..)];congr 1;induction ks with
 |nil=>rfl
 |cons k ks y =>
  rw[CP,CP,y (λq u=>h q (by simp at u ⊢;rcases u with u|u;exact .inl u;exact .inr (.inr u))),h k.1 (by simp)]
theorem iq {p:Bool}{ks:List (Nat×Nat×Nat)}{ep:Nat}{u:Option (Nat×Nat×Nat)}{E:TypeId}{e:Ty}{xs:List e.den}:aw [.nal p ks ep u E e xs]=EPO::ks.map (·.1):=by simp[aw]
theorem u5 {p:Bool}{ks:List (Nat×Nat×Nat)}{ep:Nat}{a:Ty}{x:a.den}{off:Nat}:aw [.np p ks ep a x off]=EPO::ks.map (·.1):=by simp[aw]
theorem cj {l:Leaf}(h:∀ q∈aw [l],st' q=st q):aD st' l=aD st l:=by
 cases l with
 |al r j v=>simp only[aD,h r (by simp[aw])]
 |nal p z ep u E e y=>rw[iq]at h;simp only[aD,jB h]
 |_=>rfl
theorem jL:∀ (a:Ty) (ls:List Leaf) (p:Bool) (x:a.den) (u:List Leaf),aZ st a ls=some (p,x,u)->∃ I,ls=I++u
 |.int k,ls,p,x,u,h=>by
  simp only[aZ]at h;split at h
  ·split at h
   ·simp at h;exact⟨[_],by rw[<- h.2.2];rfl⟩
   ·cases h
  ·cases h
 |.bool,ls,p,x,u,h=>by
  simp only[aZ]at h;split at h
  ·simp at h;exact⟨[_],by rw[<- h.2.2];rfl⟩
  ·cases h
 |.str,ls,p,x,u,h=>by
  simp only[aZ]at h;split at h
  ·simp at h;exact⟨[_],by rw[<- h.2.2];rfl⟩
  ·cases h
 |.unit,ls,p,x,u,h=>by
  simp only[aZ,BA,BS]at h;exact⟨[],by rw[h.2.2];rfl⟩
 |.hdr,ls,p,x,u,h=>by
  simp only[aZ]at h;split at h
  ·split at h
   ·simp at h;exact⟨[_],by rw[<- h.2.2];rfl⟩
   ·cases h
  ·cases h
 |.pair a b,ls,p,x,u,h=>by
  simp only[aZ]at h;split at h
  ·rename_i q y H ha;split at h
   ·rename_i X z J O;simp at h;obtain⟨I,M⟩:=jL a ls q y H ha;obtain⟨Z,Y⟩:=jL b H X z J O;exact⟨I++Z,by rw[M,Y,h.2.2,Bs]⟩
   ·cases h
  ·cases h
 |.list m E e,ls,p,x,u,h=>by
  simp only[aZ]at h;split at h
  ·split at h
   ·simp at h;exact⟨[_],by rw[<- h.2.2];rfl⟩
   ·cases h
  ·cases h
theorem gA:∀ (a:Ty) (ls:List Leaf),(∀ q∈aw ls,st' q=st q)->aZ st' a ls=aZ st a ls
 |.int k,ls,h=>rfl
 |.bool,ls,h=>rfl
 |.str,ls,h=>rfl
 |.unit,ls,h=>rfl
 |.hdr,ls,h=>by
  cases ls with
  |nil=>rfl
  |cons l ls =>
   simp only[aZ];rw[cj (l:=l) (λq u=>h q (by rw[aK];exact BD _ u))]
 |.pair a b,ls,h=>by
  simp only[aZ,gA a ls h];cases I:aZ st a ls with
  |none=>rfl
  |some x =>
   obtain⟨p,y,z⟩:=x;obtain⟨J,H⟩:=jL a ls p y z I;simp only;rw[gA b z (λq u=>h q (by rw[H,k7];exact BE _ u))]
 |.list m E e,ls,h=>by
  cases ls with
  |nil=>rfl
  |cons l ls =>
   simp only[aZ];rw[cj (l:=l) (λq u=>h q (by rw[aK];exact BD _ u))]
theorem eC {a:Ty}{ls:List Leaf}(h:∀ q∈aw ls,st' q=st q):cO st' a ls=cO st a ls:=by
 unfold cO;rw[gA a ls h]
theorem ni {e:Ty}:∀ (n:Nat) (ls:List Leaf),(∀ q∈aw ls,st' q=st q)->fw st' e n ls=fw st e n ls
 |0,_,_=>rfl
 |n+1,ls,h=>by
  simp only[fw,eC (ls:=ls.take e.cells) (λq u=>h q (rx _ _ q u)),ni n (ls.drop e.cells) (λq u=>h q (fA _ _ q u))]
theorem jd:∀ {ls:List Leaf},(∀ q∈aw ls,st' q=st q)->bt st' ls=bt st ls
 |[],_=>rfl
 |l::ls,h=>by
  have z:=jd (ls:=ls) (λq u=>h q (by rw[aK];exact BE _ u));cases l with
  |al r j v=>simp only[bt,z,cj (l:=.al r j v) (λq u=>h q (by rw[aK];exact BD _ u))]
  |nal p I ep y E e H=>simp only[bt,z,cj (l:=.nal p I ep y E e H) (λq u=>h q (by rw[aK];exact BD _ u))]
  |_=>simpa[bt]using z
theorem o7:∀ {ls:List Leaf},(∀ q∈aw ls,st' q=st q)->b7 st' ls=b7 st ls
 |[],_=>rfl
 |l::ls,h=>by
  have y:=o7 (ls:=ls) (λq u=>h q (by rw[aK];exact BE _ u));cases l with
  |al r j v=>simp only[b7,y,cj (l:=.al r j v) (λq u=>h q (by rw[aK];exact BD _ u))]
  |_=>simpa[b7]using y
theorem qH:∀ {ls:List Leaf},(∀ q∈aw ls,st' q=st q)->dx st' ls=dx st ls
 |[],_=>rfl
 |l::ls,h=>by
  have z:=qH (ls:=ls) (λq y=>h q (by rw[aK];exact BE _ y));cases l with
  |nal p I ep u E e H =>
   cases u with
   |none=>simp only[dx,z,cj (l:=.nal p I ep none E e H) (λq y=>h q (by rw[aK];exact BD _ y))]
   |some x=>simpa[dx]using z
  |_=>simpa[dx]using z
theorem o8 {ls:List Leaf}(h:∀ q∈aw ls,st' q=st q):dG st' ls=dG st ls:=by
 unfold dG;induction ls with
 |nil=>rfl
 |cons l ls y =>
  rw[BY,BY,y (λq u=>h q (by rw[aK];exact BE _ u))];unfold ge;rw[cj (λq u=>h q (by rw[aK];exact BD _ u))]
theorem eu:∀ {ls:List Leaf} {x:Nat×Nat},x∈bt st ls->x.1∈aw ls
 |[],_,h=>by simp[bt]at h
 |l::ls,x,h=>by
  cases l with
  |al r j v =>
   simp only[bt,BB]at h;rcases h with h|h
   ·split at h
    ·simp at h;subst h;simp[aw]
    ·simp at h
   ·rw[aK];exact BE _ (eu h)
  |nal p z ep u E e H =>
   simp only[bt,BB]at h;rcases h with h|h
   ·split at h
    ·obtain⟨k,y,rfl⟩:=BL.1 h;rw[aK,iq];exact BD _ (BF _ (BL.2 ⟨k,y,rfl⟩))
    ·simp at h
   ·rw[aK];exact BE _ (eu h)
  |_=>(simp only[bt]at h;rw[aK];exact BE _ (eu h))
theorem je:∀ {ls:List Leaf} {x:Nat×Nat},x∈b7 st ls->x.1∈aw ls
 |[],_,h=>by simp[b7]at h
 |l::ls,x,h=>by
  cases l with
  |al r j v =>
   simp only[b7,BB]at h;rcases h with h|h
   ·split at h
    ·simp at h;subst h;simp[aw]
    ·simp at h
   ·rw[aK];exact BE _ (je h)
  |_=>(simp only[b7]at h;rw[aK];exact BE _ (je h))
theorem hI:∀ {ls:List Leaf} {x:Nat×Nat},x∈dx st ls->x.1∈aw ls
 |[],_,h=>by simp[dx]at h
 |l::ls,x,h=>by
  cases l with
  |nal p H ep u E e I =>
   cases u with
   |none =>
    simp only[dx,BB]at h;rcases h with h|h
    ·split at h
     ·obtain⟨k,z,rfl⟩:=BL.1 h;rw[aK,iq];exact BD _ (BF _ (BL.2 ⟨k,z,rfl⟩))
     ·simp at h
    ·rw[aK];exact BE _ (hI h)
   |some y=>(simp only[dx]at h;rw[aK];exact BE _ (hI h))
  |_=>(simp only[dx]at h;rw[aK];exact BE _ (hI h))
theorem ir:∀ {ks:List (Nat×Nat)},(∀ x∈ks,st' x.1=st x.1)->aM st' ks=aM st ks
 |[],_=>rfl
 |(r,j)::ks,h=>by
  simp only[aM,ir (ks:=ks) (λx u=>h x (BF _ u)),bh (h (r,j) (BG ..))]
theorem kb:∀ {ks:List (Nat×Nat)},(∀ x∈ks,st' x.1=st x.1)->aE st' ks=aE st ks
 |[],_=>rfl
 |(r,j)::ks,h=>by
  simp only[aE,kb (ks:=ks) (λx u=>h x (BF _ u)),bh (h (r,j) (BG ..))]
theorem tB {ls:List Leaf}(h:∀ q∈aw ls,st' q=st q):mvU st' ls=mvU st ls:=by
 unfold mvU;rw[qH h,o7 h,kb (λx u=>h _ (hI u))];simp only;rw[ir (λx u=>bh (h _ (je u)) _)]
theorem qI {ls:List Leaf}(h:∀ q∈aw ls,st' q=st q):hM st' ls=hM st ls:=by
 unfold hM;rw[qH h,o7 h]
theorem jf:∀ (a:Ty) (ls:List Leaf),(∀ q∈aw ls,st' q=st q)->take st' a ls=take st a ls
 |.int k,ls,h=>by simp only[take,gA (.int k) ls h]
 |.bool,ls,h=>by simp only[take,gA .bool ls h]
 |.str,ls,h=>by simp only[take,gA .str ls h]
 |.unit,ls,h=>rfl
 |.hdr,ls,h=>by simp only[take,gA .hdr ls h]
 |.pair a b,ls,h=>by
  simp only[take,jf a ls h];cases H:take st a ls with
  |none=>rfl
  |some x =>
   have z:=ka.take_rest a ls x H;simp only;rw[jf b x.rest (λq y=>h q (fA a.cells ls q (by rw[<- z];exact y)))]
 |.list m E e,ls,h=>by
  cases ls with
  |nil=>rfl
  |cons l ls =>
   have u:∀ q∈aw [l],st' q=st q:=λq y=>h q (by rw[aK];exact BD _ y)
   simp only[take,cj u,jd u];congr 1;split
   ·rename_i r j v;rw[cj u]
   ·rfl
   ·rfl
theorem gO {a:Ty}{ls:List Leaf}(h:∀ q∈aw ls,st' q=st q):ch st' a ls=ch st a ls:=by
 unfold ch;rw[jf a ls h]
theorem nS:∀ (a:Ty) (ls:List Leaf) (t:cK a.den),take st a ls=some t->(∀ z∈t.frz,z.1∈aw ls)/\∀ z∈t.kill,z.1∈aw ls
 |.int k,ls,t,h=>by simp only[take,BI]at h;obtain⟨_,_,rfl⟩:=h;exact⟨by simp,by simp⟩
 |.bool,ls,t,h=>by simp only[take,BI]at h;obtain⟨_,_,rfl⟩:=h;exact⟨by simp,by simp⟩
 |.str,ls,t,h=>by simp only[take,BI]at h;obtain⟨_,_,rfl⟩:=h;exact⟨by simp,by simp⟩
 |.hdr,ls,t,h=>by simp only[take,BI]at h;obtain⟨_,_,rfl⟩:=h;exact⟨by simp,by simp⟩
 |.unit,ls,t,h=>by simp only[take,BA]at h;subst h;exact⟨by simp,by simp⟩
 |.pair a b,ls,t,h=>by
  simp only[take]at h;split at h
  ·rename_i x J;split at h
   ·rename_i y X;simp only[BA]at h;subst h;have hr:=ka.take_rest a ls x J;obtain⟨Z,Y⟩:=nS a ls x J;obtain⟨H,M⟩:=nS b x.rest y X;rw[hr]at H M;exact⟨λz u=>(BB.1 u).elim (Z z) (λu=>fA _ _ _ (H z u)),λz u=>(BB.1 u).elim (Y z) (λu=>fA _ _ _ (M z u))⟩
   ·cases h
  ·cases h
 |.list m E e,ls,t,h=>by
  cases ls with
  |nil=>simp[take]at h
  |cons l ls =>
   have I:∀ q∈aw [l],q∈aw (l::ls):=λq O=>by rw[aK];exact BD _ O
   cases m with
   |false =>
    simp only[take,cond_false]at h;split at h
    ·simp only[BA]at h;subst h;exact⟨λz u=>I _ (eu u),by simp⟩
    ·cases h
   |true =>
    simp only[take,cond_true]at h;split at h
    ·split at h
     ·simp only[BI]at h;obtain⟨_,_,rfl⟩:=h;exact⟨by simp,λz u=>by simp at u;subst u;exact I _ (by simp[aw])⟩
     ·cases h
    ·simp only[BA]at h;subst h;exact⟨by simp,by simp⟩
    ·cases h
theorem iV {a:Ty}{ls:List Leaf}{t:cK a.den}(h:ch st a ls=some t):(∀ z∈t.frz,z.1∈aw ls)/\∀ z∈t.kill,z.1∈aw ls:=by
 unfold ch at h;split at h
 ·rename_i p x f k u;simp only[BA]at h;subst h;exact nS a ls _ u
 ·cases h
theorem jX:∀ {off n:Nat} (a:Ty) (pos:Nat) (x:a.den) (ls:List Leaf) (t:cK a.den),c8 st off n a pos x ls=some t->∃ k,t.rest=ls.drop k
 |off,n,.pair a b,pos,x,ls,t,h=>by
  simp only[c8]at h;split at h
  ·rename_i u y;split at h
   ·rename_i v I;simp only[BA]at h;subst h;obtain⟨M,z⟩:=jX a pos x.1 ls u y;obtain⟨H,J⟩:=jX b (pos+a.cells) x.2 u.rest v I;exact⟨M+H,by show v.rest=_;rw[J,z,CX]⟩
   ·cases h
  ·cases h
 |off,n,.unit,pos,x,ls,t,h=>by simp only[c8,BA]at h;subst h;exact⟨0,rfl⟩
 |off,n,.hdr,pos,x,ls,t,h=>by simp[c8]at h
 |off,n,.int k,pos,x,ls,t,h=>sc (a:=.int k) h
 |off,n,.bool,pos,x,ls,t,h=>sc (a:=.bool) h
 |off,n,.str,pos,x,ls,t,h=>sc (a:=.str) h
 |off,n,.list m E e,pos,x,ls,t,h=>sc (a:=.list m E e) h
where
 sc {a:Ty} {b:Bool} {x:a.den} {ls:List Leaf} {t:cK a.den} (h:(bif b then take st a ls else some ⟨false,x,[],[],ls⟩)=some t):∃ k,t.rest=ls.drop k:=by
  cases b with
  |true=>exact⟨_,ka.take_rest a ls t h⟩
  |false=>simp only[cond_false,BA]at h;subst h;exact⟨0,rfl⟩
theorem o9:∀ {off n:Nat} (a:Ty) (pos:Nat) (x:a.den) (ls:List Leaf),(∀ q∈aw ls,st' q=st q)->c8 st' off n a pos x ls=c8 st off n a pos x ls
 |off,n,.pair a b,pos,x,ls,h=>by
  simp only[c8,o9 a pos x.1 ls h];cases y:c8 st off n a pos x.1 ls with
  |none=>rfl
  |some u =>
   obtain⟨k,e⟩:=jX a pos x.1 ls u y;simp only;rw[o9 b (pos+a.cells) x.2 u.rest (λq z=>h q (fA k ls q (by rw[<- e];exact z)))]
 |off,n,.unit,pos,x,ls,h=>rfl
 |off,n,.hdr,pos,x,ls,h=>rfl
 |off,n,.int k,pos,x,ls,h=>by simp only[c8,jf (.int k) ls h]
 |off,n,.bool,pos,x,ls,h=>by simp only[c8,jf .bool ls h]
 |off,n,.str,pos,x,ls,h=>by simp only[c8,jf .str ls h]
 |off,n,.list m E e,pos,x,ls,h=>by simp only[c8,jf (.list m E e) ls h]
theorem pa:∀ {off n:Nat} (a:Ty) (pos:Nat) (x:a.den) (ls:List Leaf) (t:cK a.den),c8 st off n a pos x ls=some t->(∀ z∈t.frz,z.1∈aw ls)/\∀ z∈t.kill,z.1∈aw ls
 |off,n,.pair a b,pos,x,ls,t,h=>by
  simp only[c8]at h;split at h
  ·rename_i u H;split at h
   ·rename_i v M;simp only[BA]at h;subst h;obtain⟨k,e⟩:=jX a pos x.1 ls u H;obtain⟨X,O⟩:=pa a pos x.1 ls u H;obtain⟨I,J⟩:=pa b (pos+a.cells) x.2 u.rest v M;rw[e]at I J;exact⟨λz y=>(BB.1 y).elim (X z) (λy=>fA _ _ _ (I z y)),λz y=>(BB.1 y).elim (O z) (λy=>fA _ _ _ (J z y))⟩
   ·cases h
  ·cases h
 |off,n,.unit,pos,x,ls,t,h=>by simp only[c8,BA]at h;subst h;exact⟨by simp,by simp⟩
 |off,n,.hdr,pos,x,ls,t,h=>by simp[c8]at h
 |off,n,.int k,pos,x,ls,t,h=>sc (a:=.int k) h
 |off,n,.bool,pos,x,ls,t,h=>sc (a:=.bool) h
 |off,n,.str,pos,x,ls,t,h=>sc (a:=.str) h
 |off,n,.list m E e,pos,x,ls,t,h=>sc (a:=.list m E e) h
where
 sc {a:Ty} {b:Bool} {x:a.den} {ls:List Leaf} {t:cK a.den} (h:(bif b then take st a ls else some ⟨false,x,[],[],ls⟩)=some t):(∀ z∈t.frz,z.1∈aw ls)/\∀ z∈t.kill,z.1∈aw ls:=by
  cases b with
  |true=>exact nS a ls t h
  |false=>simp only[cond_false,BA]at h;subst h;exact⟨by simp,by simp⟩
theorem u6 {U:Upd}{d:Nat}{sh:aG}{ls:List Leaf}(h:st' d=st d):ck st' U d sh ls=ck st U d sh ls:=by
 simp only[ck,bh h]
theorem rz:∀ {xs:List Operand} {t:Nat},Operand.tmp t∈xs->t∈iv xs
 |[],_,h=>by simp at h
 |x::xs,t,h=>by
  rcases BO.1 h with rfl|h
  ·simp[iv]
  ·have u:=rz h;cases x <;> simp[iv,u]
theorem nj (t n:Nat):∀ (j:Nat) (ls:List Leaf) (q:Nat),q∈aw (bD t n j ls)->q=t\/q∈aw ls
 |_,[],_,h=>by simp[bD,aw]at h
 |j,l::ls,q,h=>by
  simp only[bD]at h;rw[aK,BB]at h;rw[aK,BB];rcases h with h|h
  ·cases l with
   |own p y E e u=>simp[lD,aw]at h;exact .inl h
   |_=>exact .inr (.inl h)
  ·exact (nj t n (j+1) ls q h).imp id .inr
theorem k8:∀ (y u:List Leaf),ay (y++u)=ay y++ay u
 |[],_=>rfl
 |l::y,u=>by cases l <;> simp[ay,k8 y u]
theorem dv (l:Leaf)(ls:List Leaf):ay (l::ls)=ay [l]++ay ls:=k8 [l] ls
theorem fC:∀ {ls:List Leaf} {q:Nat},q∈aw ls->q∈ay ls
 |[],_,h=>by simp[aw]at h
 |l::ls,q,h=>by
  rw[aK,BB]at h;rw[dv,BB];rcases h with h|h
  ·left;cases l with
   |nal p y ep u E e z=>simp[aw]at h;simpa[ay]using h
   |np p y ep a x off=>simp[aw]at h;simpa[ay]using h
   |_=>simp[aw]at h <;> simp[ay,h]
  ·exact .inr (fC h)
theorem nk (t n:Nat):∀ (j:Nat) (ls:List Leaf) (q:Nat),q∈ay (bD t n j ls)->q=t\/q∈ay ls
 |_,[],_,h=>by simp[bD,ay]at h
 |j,l::ls,q,h=>by
  simp only[bD]at h;rw[dv,BB]at h;rw[dv,BB];rcases h with h|h
  ·cases l with
   |own p y E e u=>simp[lD,ay]at h;exact .inl h
   |_=>exact .inr (.inl h)
  ·exact (nk t n (j+1) ls q h).imp id .inr
theorem rA {x:Operand}{q:Nat}(h:q∈aw (au st x).2):∃ t,x=.tmp t/\(q=t\/q∈aw (st t).ls):=by
 cases x with
 |tmp t =>
  simp only[au]at h;cases y:CT t GH with
  |false=>simp[y,aw]at h
  |true=>simp only[y,cond_true]at h;exact⟨t,rfl,nj _ _ _ _ _ h⟩
 |const v =>
  simp only[au]at h;split at h
  ·rename_i l u;unfold is at u;split at u <;> simp at u <;> subst u <;> simp[aw]at h
  ·simp[aw]at h
 |func f=>simp[au,aw]at h
 |global g=>simp[au,aw]at h
theorem rB {x:Operand}{q:Nat}(h:q∈ay (au st x).2):∃ t,x=.tmp t/\(q=t\/q∈ay (st t).ls):=by
 cases x with
 |tmp t =>
  simp only[au]at h;cases y:CT t GH with
  |false=>simp[y,ay]at h
  |true=>simp only[y,cond_true]at h;exact⟨t,rfl,nk _ _ _ _ _ h⟩
 |const v =>
  simp only[au]at h;split at h
  ·rename_i l u;unfold is at u;split at u <;> simp at u <;> subst u <;> simp[ay]at h
  ·simp[ay]at h
 |func f=>simp[au,ay]at h
 |global g=>simp[au,ay]at h
theorem qJ {x:Operand}{l:Leaf}(h:one st x=l)(y:l≠.dead):(au st x).2=[l]:=by
 unfold one at h;split at h
 ·rename_i z u;rw[u,h]
 ·exact absurd h.symm y
theorem jg {x:Operand}{q:Nat}(h:q∈aw [one st x]):q∈aw (au st x).2:=by
 by_cases u:one st x=.dead
 ·rw[u]at h;simp[aw]at h
 ·rw[qJ rfl u];exact h
theorem tC {x:Operand}{q:Nat}(h:q∈ay [one st x]):q∈ay (au st x).2:=by
 by_cases u:one st x=.dead
 ·rw[u]at h;simp[ay]at h
 ·rw[qJ rfl u];exact h
def jo:Leaf->Bool×Leaf
 |.own _ _ _ e u=>(true,.ep 0 0 0 e.cells u.length 0)
 |l=>(false,l)
def bJ (c:bS):Nat×aG×List (Bool×Leaf):=(c.ver,c.sh,c.ls.map jo)
theorem tD {l l':Leaf}(h:jo l'=jo l):l'=l\/∃ (p p':Bool) (z y:Option (Nat×Nat)) (E E':TypeId) (e e':Ty) (xs:List e.den) (u:List e'.den),l=.own p z E e xs/\l'=.own p' y E' e' u/\e'.cells=e.cells/\u.length=xs.length:=by
 cases l <;> cases l' <;> simp only[jo,BS,CI,reduceCtorEq,false_and,and_false,true_and,Leaf.ep.injEq,Bool.true_eq_false]at h <;>
  first
  |exact .inr ⟨_,_,_,_,_,_,_,_,_,_,rfl,rfl,h.1,h.2.1⟩
  |exact .inr ⟨_,_,_,_,_,_,_,_,_,_,rfl,rfl,h.1,h.2⟩
  |exact .inl rfl
  |exact .inl (by rw[h])
  |exact .inl h
  |(obtain⟨rfl,rfl,rfl,rfl,rfl,rfl⟩:=h;exact .inl rfl)
theorem p8 (t n:Nat):∀ (j:Nat) (ls u:List Leaf),u.map jo=ls.map jo->bD t n j u=bD t n j ls
 |_,[],[],_=>rfl
 |_,[],_::_,h=>by simp at h
 |_,_::_,[],h=>by simp at h
 |j,l::ls,O::u,h=>by
  simp only[BY,CU]at h;simp only[bD,p8 t n (j+1) ls u h.2];rcases tD h.1 with e|⟨p,J,Z,I,E,X,e,Y,M,z,y,H,_,_⟩
  ·rw[e]
  ·rw[y,H];rfl
theorem xN {x:Operand}(h:∀ t,x=.tmp t->bJ (st' t)=bJ (st t)):au st' x=au st x:=by
 cases x with
 |tmp t =>
  have:=h t rfl;simp only[bJ,BS]at this;simp only[au,this.1,this.2.1,p8 _ _ _ _ _ this.2.2]
 |_=>rfl
theorem zq {x:Operand}(h:∀ t,x=.tmp t->bJ (st' t)=bJ (st t)):one st' x=one st x:=by
 unfold one;rw[xN h]
theorem xO {c u:bS}(h:bJ u=bJ c)(j:Nat):jo (u.ls.getD j .dead)=jo (c.ls.getD j .dead):=by
 simp only[bJ,BS]at h;have:=congrArg (λl=>l[j]?) h.2.2;simp only[Ck]at this;rw[BP,BP];generalize u.ls[j]?=a at this;generalize c.ls[j]?=b at this
 match a,b,this with
 |none,none,_=>rfl
 |some x,some y,h=>exact Cs h
theorem rD (l:Leaf):lj l=(jo l).1:=by cases l <;> rfl
theorem yW {ks:List (Nat×Nat×Nat)}{ep:Nat}(h:∀ q∈EPO::ks.map (·.1),bJ (st' q)=bJ (st q)):bj st' ks ep=bj st ks ep:=by
 unfold bj;have z:=h EPO (BG ..);simp only[bJ,BS]at z;rw[z.1];congr 1;induction ks with
 |nil=>rfl
 |cons k ks I =>
  have y:=h k.1 (by simp);have H:(st' k.1).ver=(st k.1).ver:=by simp only[bJ,BS]at y;exact y.1
  rw[CP,CP,I (λq u=>h q (by simp at u ⊢;rcases u with u|u;exact .inl u;exact .inr (.inr u))),rD,rD,xO y,H]
end
section
variable {P:Program} {V:Env} {Γ:List Ctr} {T:TypeId->TI} {st st':St} {o:Oper} {R:Type} {κ:Upd->Option R} {r:R}
theorem tE {d:Nat}(u:o.dst=some d)(h:∀ q∈fg st o,st' q=st q):st' d=st d/\st' (B0+d)=st (B0+d):=by
 refine⟨h d ?_,h (B0+d) ?_⟩ <;> simp[fg,ze,u]
theorem k9 {ls:List Leaf}(h:∀ q∈aw ls,st' q=st q):∀ x∈bt st ls,st' x.1=st x.1:=λx u=>h _ (eu u)
theorem p9 {u:List (Nat×Nat×Bool)}:∀ (ps:List (Nat×Operand)) (ls:List Leaf),(∀ x∈ps,∀ t,x.2=.tmp t->st' t=st t)->ff st' u ps ls=ff st u ps ls
 |[],_,_=>rfl
 |(i,x)::ps,ls,h=>by
  simp only[ff,dS (h (i,x) (BG ..))];split
  ·rw[p9 ps _ (λy z=>h y (BF _ z))]
  ·rfl
theorem ov {e:Ty}:∀ (ps:List (Nat×Operand)) (k:Nat),(∀ x∈ps,(∀ t,x.2=.tmp t->st' t=st t)/\∀ q∈aw (au st x.2).2,st' q=st q)->ew st' e k ps=ew st e k ps
 |[],_,_=>rfl
 |(i,x)::ps,k,h=>by
  have u:=h (i,x) (BG ..);simp only[ew,dS u.1,gO u.2,ov ps (k+1) (λy z=>h y (BF _ z))]
theorem ox {e:Ty}:∀ (ps:List (Nat×Operand)) (k:Nat) (u:cK (List e.den)),ew st e k ps=some u->∀ z,z∈u.frz\/z∈u.kill->∃ x∈ps,z.1∈aw (au st x.2).2
 |[],_,_,h=>by simp only[ew,BA]at h;subst h;simp
 |(i,x)::ps,k,u,h=>by
  simp only[ew]at h;cases O:BJ i k&&decide ((au st x).1=bf e.isAgg) with
  |false=>simp[O]at h
  |true =>
   simp only[O,cond_true]at h;split at h
   ·rename_i t1 J hg M;simp only[BA]at h;subst h;intro z H;obtain⟨X,p2⟩:=iV hg;have I:(z∈t1.frz\/z∈t1.kill)\/(z∈J.frz\/z∈J.kill):=by
     rcases H with H|H <;> rcases BB.1 H with H|H
     ·exact .inl (.inl H)
     ·exact .inr (.inl H)
     ·exact .inl (.inr H)
     ·exact .inr (.inr H)
    rcases I with H|H
    ·exact⟨(i,x),BG ..,H.elim (X z) (p2 z)⟩
    ·obtain⟨y,Y,Z⟩:=ox ps (k+1) J M z H;exact⟨y,BF _ Y,Z⟩
   ·cases h
theorem nl {x:Option Operand}{n:Int}(h:∀ y,x=some y->∀ t,y=.tmp t->st' t=st t):dh st' x n=dh st x n:=by
 cases x with
 |none=>rfl
 |some y=>simp only[dh,dD (h y rfl)]
theorem u7:∀ (xs:List Operand) (u:Option (List Nat)),(∀ x∈xs,∀ t,x=.tmp t->st' t=st t) ->
  xs.foldl (λ (u:Option (List Nat)) x=>u.bind λl=>match one st' x with|.bp b 0=>some (l++[b])|_=>none) u =
  xs.foldl (λ (u:Option (List Nat)) x=>u.bind λl=>match one st x with|.bp b 0=>some (l++[b])|_=>none) u
 |[],_,_=>rfl
 |x::xs,u,h=>by
  simp only[Ct,dD (h x (BG ..))];exact u7 xs _ (λy z=>h y (BF _ z))
theorem qa {l:Leaf}(z:st' TMP=st TMP)(H:st' EPO=st EPO)(h:∀ q∈aw [l],st' q=st q):cl st' l=cl st l:=by
 cases l with
 |nal p y ep u E e M =>
  rw[iq]at h;simp only[cl,jB h,z,H];congr 1
  match y,u,h with
  |[(r,j,n)],some (i,J,off),h =>
   have I:=h r (by simp);simp only[I]
  |[(r,j,n)],none,_=>rfl
  |[],_,_=>rfl
  |_::_::_,_,_=>rfl
 |_=>rfl
theorem oy {l l':Leaf}{U:Upd}(h:cl st l=some (U,l')):∃ n,l'=.al TMP 0 n/\∀ q,q≠TMP->∀ z∈ay (ac U st q).ls,z∈ay (st q).ls:=by
 cases l with
 |nal p ks ep a0 E e xs =>
  simp only[cl]at h;cases H:bj st ks ep with
  |false=>simp[H]at h
  |true =>
   rw[H]at h;simp only[cond_true]at h;split at h
   ·rename_i r j n0 i sz off;split at h
    ·rename_i Z E' O J hg;cases Y:!BJ r TMP&&!BJ r EPO&&BJ sz O.cells with
     |false=>simp[Y]at h
     |true =>
      rw[Y]at h;simp only[cond_true]at h;split at h
      ·split at h
       ·rename_i y _ _ _ _ _;simp only[BA,BS]at h;obtain⟨rfl,rfl⟩:=h;refine⟨_,rfl,λq hq z u=>?_⟩;rw[aO]at u;rcases ak r q ⟨(st r).ver,(st r).sh,aS (st r).ls j (.own Z (some (i,off)) E' O J)⟩ (ac [(TMP,⟨(st TMP).ver+1,.one,[.own (Z&&O.shy) none _ _ _]⟩),(EPO,bU (st EPO))] st) with ⟨rfl,M⟩|⟨_,M⟩
        ·rw[M]at u;exact refs_set u
        ·rw[M,aO,aH hq]at u;rcases ak EPO q (bU (st EPO)) st with ⟨rfl,X⟩|⟨_,X⟩ <;> rw[X]at u <;> exact u
       ·cases h
      ·cases h
    ·cases h
   ·cases h
 |_=>simp[cl]at h
where
 refs_set {I:List Leaf} {j z:Nat} {p:Bool} {hh:Option (Nat×Nat)} {E:TypeId} {e:Ty} {xs:List e.den} (h:z∈ay (aS I j (.own p hh E e xs))):z∈ay I:=by
  unfold aS at h;induction I generalizing j with
  |nil=>simpa using h
  |cons l I ih =>
   cases j with
   |zero =>
    rw[List.set_cons_zero,dv,BB]at h;rw[dv,BB];rcases h with h|h
    ·simp[ay]at h
    ·exact .inr h
   |succ j =>
    rw[Ch,dv,BB]at h;rw[dv,BB];exact h.imp id ih
theorem ux {l l':Leaf}{U:Upd}(h:cl st l=some (U,l')):ay (ac U st TMP).ls=[]:=by
 cases l with
 |nal p M ep I E e Y =>
  simp only[cl]at h;cases u:bj st M ep with
  |false=>simp[u]at h
  |true =>
   rw[u]at h;simp only[cond_true]at h;split at h
   ·rename_i r j Z i H off;split at h
    ·rename_i X E' O J hg;cases y:!BJ r TMP&&!BJ r EPO&&BJ H O.cells with
     |false=>simp[y]at h
     |true =>
      rw[y]at h;simp only[cond_true]at h;have z:TMP≠r:=λe=>by subst e;simp at y
      split at h
      ·split at h
       ·simp only[BA,BS]at h;obtain⟨rfl,rfl⟩:=h;rw[aO,aH z,aO,bg];rfl
       ·cases h
      ·cases h
    ·cases h
   ·cases h
 |_=>simp[cl]at h
theorem wj {E:TypeId}{e:Ty}{y:Leaf}(u:∀ q∈aw [y],st' q=st q):fK st' E e y=fK st E e y:=by
 unfold fK;rw[cj u,jd u,gO u]
theorem wk {E:TypeId}{e:Ty}{y:Leaf}{t:cK (List e.den)}(h:fK st E e y=some t):(∀ z∈t.frz,z.1∈aw [y])/\∀ z∈t.kill,z.1∈aw [y]:=by
 unfold fK at h;cases u:e.flat with
 |true =>
  rw[u]at h;simp only[cond_true,BI]at h;obtain⟨_,_,rfl⟩:=h;exact⟨by simp,by simp⟩
 |false =>
  rw[u]at h;simp only[cond_false]at h;cases H:decide (e.sh=e) with
  |true =>
   rw[H]at h;simp only[cond_true,BI]at h;obtain⟨_,_,rfl⟩:=h;exact⟨λz I=>eu I,by simp⟩
  |false =>
   rw[H]at h;simp only[cond_false,BI]at h;obtain⟨M,J,rfl⟩:=h;exact iV J
theorem la {u:Upd}{d:Nat}{E:TypeId}{e:Ty}{H:Nat}{p:Bool}{xs:List e.den}{ks:List (Nat×Nat)}{y:Leaf}(J:∀ z∈ks,st' z.1=st z.1)(O:∀ q∈aw [y],st' q=st q)(hd:st' d=st d) :
  dU st' (ac u st') u d E e H p xs ks y κ=dU st (ac u st) u d E e H p xs ks y κ:=by
 unfold dU;have M:∀ q,st' q=st q->ac u st' q=ac u st q:=λq h=>bh h u
 rw[wj (st:=ac u st) (st':=ac u st') (λq Z=>M q (O q Z))];split
 ·rename_i t ht;obtain⟨X,p2⟩:=wk ht;have Y:aE (ac u st') t.frz=aE (ac u st) t.frz:=kb (λz I=>M _ (O _ (X z I)));have e2:∀ U:Upd,aM (ac U (ac u st')) (t.kill++ks)=aM (ac U (ac u st)) (t.kill++ks):=λU=>ir (λz I=>bh (M _ ((BB.1 I).elim (λI=>O _ (p2 z I)) (J z))) U)
  simp only[Y,e2,u6 hd]
 ·rfl
theorem wm {H:Upd}{d:Nat}{E:TypeId}{e:Ty}{u:Nat}{x y:Leaf}(J:∀ q∈aw [x],st' q=st q)(O:∀ q∈aw [y],st' q=st q)(M:st' d=st d):eo st' H d E e u x y κ=eo st H d E e u x y κ:=by
 unfold eo;cases x with
 |al r j v =>
  have X:st' r=st r:=J r (by simp[aw]);simp only;rw[cj (st:=ac H st) (st':=ac H st') (l:=.al r j v) (λq Y=>bh (J q Y) H)];split
  ·rw[la (λz I=>by simp at I;subst I;exact X) O M]
  ·rfl
 |nil=>exact la (by simp) O M
 |_=>rfl
theorem wn {d:Nat}{E:TypeId}{e:Ty}{H:Nat}{x y:Leaf}(M:st' TMP=st TMP)(J:∀ q∈aw [x],st' q=st q)(X:∀ q∈aw [y],st' q=st q)(Y:st' d=st d):iu st' d E e H x y κ=iu st d E e H x y κ:=by
 unfold iu;rw[wm J X Y,gX,gX];cases hn:jj x with
 |false=>rfl
 |true =>
  simp only[cond_true];have hE:st' EPO=st EPO:=by
   cases x with
   |nal p ks ep a0 E e xs=>exact J EPO (by rw[iq];exact BG ..)
   |_=>simp[jj]at hn
  rw[qa M hE J];cases Z:cl st x with
  |none=>rfl
  |some u =>
   obtain⟨n,e1,_⟩:=oy (U:=u.1) (l':=u.2) Z;simp only[B3];rw[e1];unfold eo;simp only;have e2:∀ q,q=TMP->ac u.1 st' q=ac u.1 st q:=λq I=>by rw[I];exact bh M u.1
   rw[cj (st:=ac u.1 st) (st':=ac u.1 st') (l:=.al TMP 0 n) (λq I=>e2 q (by simpa[aw]using I))];split
   ·rw[la (λz O=>by simp at O;subst O;exact M) X Y]
   ·rfl
structure eK (st st':St) (ls:List Leaf):Prop where
 d1:∀ q∈ay ls,st' q=st q
 d2:∀ r∈ay ls,∀ q∈ay (st r).ls,st' q=st q
 d3:∀ r∈ay ls,∀ r2∈ay (st r).ls,∀ q∈ay (st r2).ls,st' q=st q
theorem kq (p:Bool):∀ (a:Ty) (x:a.den),ay (cJ p a x)=[]
 |.int _,_=>rfl
 |.bool,_=>rfl
 |.str,_=>rfl
 |.unit,_=>rfl
 |.hdr,_=>rfl
 |.pair a b,x=>by simp[cJ,k8,kq p a,kq p b]
 |.list _ _ _,_=>rfl
theorem rE {l:Leaf}(h:∀ q∈ay [l],st' q=st q):target st' l=target st l:=by
 unfold target;cases l with
 |bp b off =>
  have u:=h b (by simp[ay]);cases off with
  |zero=>simp only[u]
  |succ n=>rfl
 |rp p a x off=>cases off <;> rfl
 |_=>rfl
theorem lf {l:Leaf}{ls:List Leaf}(h:target st l=some ls):∀ q∈ay ls,q∈ay [l]\/∃ r∈ay [l],q∈ay (st r).ls:=by
 unfold target at h;split at h
 ·rename_i b;cases y:decide ((st b).sh=.agg) with
  |false=>simp[y]at h
  |true =>
   simp only[y,cond_true,BA]at h;subst h;intro q u;rcases nk _ _ _ _ _ u with rfl|u
   ·exact .inl (by simp[ay])
   ·exact .inr ⟨b,by simp[ay],u⟩
 ·simp only[BA]at h;subst h;intro q u;rw[kq]at u;simp at u
 ·simp only[BA]at h;subst h;intro q u;simp[ay]at u
 ·cases h
theorem iW {x:aG×List Leaf}{q:Nat}(h:q∈ay [cm x]):q∈ay x.2:=by
 unfold cm at h;split at h
 ·exact h
 ·simp[ay]at h
theorem eK.target {l:Leaf}{ls:List Leaf}(h:eK st st' [l])(H:Go.Proofs.YtaelpfghkndliaaGreatEv.target st l=some ls):(∀ q∈ay ls,st' q=st q)/\∀ r∈ay ls,∀ q∈ay (st r).ls,st' q=st q:=by
 constructor
 ·intro q y;rcases lf H q y with u|⟨r,u,z⟩
  ·exact h.d1 q u
  ·exact h.d2 r u q z
 ·intro r I q y;rcases lf H r I with u|⟨J,u,z⟩
  ·exact h.d2 r u q y
  ·exact h.d3 J u r z q y
theorem eK.one {x:aG×List Leaf}(h:eK st st' x.2):eK st st' [cm x] :=
 ⟨λq y=>h.d1 q (iW y),λr u=>h.d2 r (iW u),λr u=>h.d3 r (iW u)⟩
def nm {α:Type}(st st':St)(g:Got α):Prop:=(∀ z∈g.frz,st' z.1=st z.1)/\(∀ z∈g.kill,st' z.1=st z.1)
theorem nn {c:Bool×Ty}{l:Leaf}(Y:eK st st' [l]):fe st' c l=fe st c l/\∀ g,fe st c l=some g->nm st st' g:=by
 unfold fe;rw[rE Y.d1];cases M:target st l with
 |none=>cases c.1 <;> exact⟨rfl,by simp⟩
 |some X =>
  have y:=Y.target M;cases hc:c.1 with
  |false =>
   have u:∀ q∈aw X,st' q=st q:=λq I=>y.1 q (fC I)
   simp only[cond_false,eC u,jd u,true_and];intro g z;simp only[BI]at z;obtain⟨_,_,rfl⟩:=z;exact⟨k9 u,by simp[Got.ofRd]⟩
  |true =>
   simp only[cond_true]
   match X,y,M with
   |[],_,_=>exact⟨rfl,by simp⟩
   |_::_::_,_,_=>exact⟨rfl,by simp⟩
   |[l'],y,M =>
    simp only[rE y.1];cases H:target st l' with
    |none=>exact⟨rfl,by simp⟩
    |some O =>
     have u:∀ q∈aw O,st' q=st q:=by
      intro q I;rcases lf H q (fC I) with J|⟨r,J,Z⟩
      ·exact y.1 q J
      ·exact y.2 r J q Z
     simp only[eC u,jd u,true_and];intro g z;simp only[BI]at z;obtain⟨_,_,rfl⟩:=z;exact⟨k9 u,by simp[Got.ofRd]⟩
theorem mn:∀ (cs:List (Bool×Ty)) (ls:List Leaf),(∀ l∈ls,eK st st' [l])->cA st' cs ls=cA st cs ls/\∀ g,cA st cs ls=some g->nm st st' g
 |[],[],_=>⟨rfl,λg u=>by simp only[cA,BA]at u;subst u;exact⟨by simp,by simp⟩⟩
 |[],_::_,_=>⟨rfl,λg u=>by simp[cA]at u⟩
 |_::_,[],_=>⟨rfl,λg u=>by simp[cA]at u⟩
 |c::cs,l::ls,h=>by
  obtain⟨h1,Y⟩:=nn (c:=c) (h l (BG ..));obtain⟨M,Z⟩:=mn cs ls (λy X=>h y (BF _ X));simp only[cA,h1,M,true_and];intro g u;split at u
  ·rename_i g1 H;split at u
   ·rename_i O I;simp only[BA]at u;subst u;exact⟨λz J=>(BB.1 J).elim ((Y g1 H).1 z) ((Z O I).1 z),by simp⟩
   ·cases u
  ·cases u
theorem oz {c:Nat}{q:Nat}:∀ {ls:List Leaf} {c:Nat},q∈aw (aS ls c .nil)->q∈aw ls
 |[],_,h=>h
 |l::ls,0,h=>by
  rw[show aS (l::ls) 0 .nil=.nil::ls from rfl,aK,BB]at h;rw[aK,BB];rcases h with h|h
  ·simp[aw]at h
  ·exact .inr h
 |l::ls,c+1,h=>by
  rw[show aS (l::ls) (c+1) .nil=l::aS ls c .nil from rfl,aK,BB]at h;rw[aK,BB];exact h.imp id (oz (c:=c))
theorem pb {caps:List Nat}{f:FuncId}(H:eK st st' [.clo f caps]):∀ l∈caps.map (λb=>Leaf.bp b 0),eK st st' [l]:=by
 intro l I;obtain⟨b,M,rfl⟩:=BL.1 I;have u:b∈ay [Leaf.clo f caps]:=by simp[ay,M]
 have y:∀ r∈ay [Leaf.bp b 0],r=b:=λr z=>by simpa[ay]using z
 exact⟨λq J=>H.d1 q (by rw[y q J];exact u),λr z=>H.d2 r (by rw[y r z];exact u),λr z=>H.d3 r (by rw[y r z];exact u)⟩
theorem nq {caps:List (Bool×Bool×(a:Ty)×a.den)}:∀ l∈caps.map eL,eK st st' [l]:=by
 intro l z;obtain⟨c,H,rfl⟩:=BL.1 z;have:∀ q,q∉ay [eL c]:=by
  intro q u;unfold eL at u;cases y:c.2.1 <;> rw[y]at u <;> simp[ay]at u
 exact⟨λq u=>absurd u (this q),λq u=>absurd u (this q),λq u=>absurd u (this q)⟩
theorem el {pk:PK}{x:aG×List Leaf}(h:eK st st' x.2):be st' pk x=be st pk x/\∀ g,be st pk x=some g->nm st st' g:=by
 have Y:∀ q∈aw x.2,st' q=st q:=λq M=>h.d1 q (fC M)
 have h1:=h.one;have H:∀ {b:Bool} {a:Ty} {g:Got a.den},(bif b then (ch st a x.2).map (λt=>(⟨t.p,t.val,t.frz,t.kill,[],[]⟩:Got a.den)) else none)=some g->nm st st' g:=by
  intro b a g u;cases b with
  |false=>simp at u
  |true =>
   simp only[cond_true,BI]at u;obtain⟨t,ht,rfl⟩:=u;obtain⟨p1,p2⟩:=iV ht;exact⟨λz I=>Y _ (p1 z I),λz I=>Y _ (p2 z I)⟩
 cases pk with
 |rd a =>
  simp only[be,eC Y,jd Y,true_and];intro g u;cases O:decide (x.1=bf a.isAgg) with
  |false=>simp[O]at u
  |true =>
   simp only[O,cond_true,BI]at u;obtain⟨y,_,rfl⟩:=u;exact⟨k9 Y,by simp[Got.ofRd]⟩
 |own a =>
  simp only[be,gO Y,true_and];exact λg u=>H u
 |io a =>
  simp only[be,gO Y,true_and];exact λg u=>H u
 |rref a=>exact nn (c:=(false,a)) h1
 |rref2 a=>exact nn (c:=(true,a)) h1
 |iop a =>
  simp only[be];split
  ·rename_i b Z;rw[Z]at h1;have O:=h1.d1 b (by simp[ay]);have h3:∀ q∈aw (bD b (st b).ver 0 (st b).ls),st' q=st q:=by
    intro q M;rcases nj _ _ _ _ _ M with rfl|M
    ·exact O
    ·exact h1.d2 b (by simp[ay]) q (fC M)
   simp only[O,gO h3,true_and];intro g u;cases a1:decide ((st b).sh=.agg) with
   |false=>simp[a1]at u
   |true =>
    simp only[a1,cond_true,BI]at u;obtain⟨t,ht,rfl⟩:=u;obtain⟨p1,p2⟩:=iV ht;exact⟨λz I=>h3 _ (p1 z I),λz I=>h3 _ (p2 z I)⟩
  ·exact⟨rfl,by simp⟩
 |fn As B =>
  simp only[be,true_and];intro g u;split at u
  ·split at u
   ·simp only[BA]at u;subst u;exact⟨by simp,by simp⟩
   ·cases u
  ·cases u
 |clo f cs =>
  simp only[be];split
  ·rename_i f' caps Z;rw[Z]at h1;have:=mn cs _ (pb h1);rw[this.1];refine⟨rfl,λg u=>?_⟩;cases O:BJ f' f with
   |false=>simp[O]at u
   |true=>rw[O]at u;exact this.2 g u
  ·rename_i f' caps Z;have:=mn (st:=st) (st':=st') cs _ (nq (caps:=caps));rw[this.1];refine⟨rfl,λg u=>?_⟩;cases O:BJ f' f with
   |false=>simp[O]at u
   |true=>rw[O]at u;exact this.2 g u
  ·exact⟨rfl,by simp⟩
 |hol a c off =>
  simp only[be];have X:∀ q∈aw (aS x.2 c .nil),st' q=st q:=λq M=>Y q (oz (c:=c) M)
  rw[gO X];cases O:decide (x.1=bf a.isAgg) with
  |false=>exact⟨rfl,by simp⟩
  |true =>
   simp only[cond_true];split
   ·rename_i r j v J;have a2:x.2[c]?=some (.al r j v):=by
     rw[BP]at J;cases M:x.2[c]? with
     |none=>rw[M]at J;simp at J
     |some l0=>rw[M]at J;simp at J;rw[J]
    have hr:=λq M=>Y q (qG a2 q M)
    rw[cj hr];refine⟨rfl,λg u=>?_⟩;split at u
    ·rename_i p i o' E e xs _;cases a0:BJ o' off with
     |false=>simp[a0]at u
     |true =>
      rw[a0]at u;simp only[cond_true]at u;split at u
      ·rename_i t ht;split at u
       ·simp only[BA]at u;subst u;obtain⟨p1,p2⟩:=iV ht;refine⟨λz I=>X _ (p1 z I),λz I=>?_⟩;rcases BO.1 I with rfl|I
        ·exact hr r (by simp[aw])
        ·exact X _ (p2 z I)
       ·cases u
      ·cases u
    ·cases u
   ·exact⟨rfl,by simp⟩
theorem kr {ga ga':(pk:PK)->aG×List Leaf->Option (Got pk.den)}:∀ (ps:List PK) (xs:List (aG×List Leaf)),
  (∀ x∈xs,∀ pk,ga' pk x=ga pk x/\∀ g,ga pk x=some g->nm st st' g) ->
  a7 ga' ps xs=a7 ga ps xs/\∀ g,a7 ga ps xs=some g->nm st st' g
 |[],[],_=>⟨rfl,λg u=>by simp only[a7,BA]at u;subst u;exact⟨by simp,by simp⟩⟩
 |[],_::_,_=>⟨rfl,λg u=>by simp[a7]at u⟩
 |_::_,[],_=>⟨rfl,λg u=>by simp[a7]at u⟩
 |p::ps,x::xs,h=>by
  obtain⟨h1,O⟩:=h x (BG ..) p;obtain⟨Z,X⟩:=kr ps xs (λy hy=>h y (BF _ hy));simp only[a7,h1,Z,true_and];intro g u;split at u
  ·rename_i Y H;split at u
   ·rename_i M I;simp only[BA]at u;subst u;exact⟨λz J=>(BB.1 J).elim ((O Y H).1 z) ((X M I).1 z),λz J=>(BB.1 J).elim ((O Y H).2 z) ((X M I).2 z)⟩
   ·cases u
  ·cases u
theorem tF {H:List Ty}{B:Ty}{f:FuncId}{ls:List Leaf}(h:∀ l∈ls,eK st st' [l]):kt Γ st' H B f ls=kt Γ st H B f ls/\∀ g,kt Γ st H B f ls=some g->nm st st' g:=by
 have u:=λ (q:List PK)=>kr (st:=st) (st':=st') (ga:=be st) (ga':=be st') q (ls.map λl=>(aG.one,[l])) (λy M X=>by
  obtain⟨l,O,rfl⟩:=BL.1 M;exact el (h l O))
 unfold kt;split
 ·rename_i c Y;unfold rU;simp only[uA,(u _).1,true_and];intro g z;split at z
  ·cases J:(c.ps.drop H.length).all PK.reads&&B.flat&&c.fresh with
   |false=>simp[J]at z
   |true =>
    simp only[J,cond_true]at z;split at z
    ·rename_i g0 I;simp only[BA]at z;subst z;exact⟨((u _).2 g0 I).1,by simp⟩
    ·cases z
  ·cases z
 ·exact⟨rfl,by simp⟩
theorem wo {pk:PK}{x:aG×List Leaf}(h:eK st st' x.2):cd Γ st' pk x=cd Γ st pk x/\∀ g,cd Γ st pk x=some g->nm st st' g:=by
 cases pk with
 |fn O B =>
  simp only[cd];split
  ·rename_i H y;have z:(∃ u,cm x=.clo H.1 u/\H.2=u.map λb=>Leaf.bp b 0)\/∃ u,cm x=.clr H.1 u/\H.2=u.map eL:=by
    generalize cm x=l at y;cases l <;> simp only[vj,BA,reduceCtorEq]at y
    ·subst y;exact .inl ⟨_,rfl,rfl⟩
    ·subst y;exact .inr ⟨_,rfl,rfl⟩
   have J:=h.one;rcases z with ⟨u,z,I⟩|⟨u,z,I⟩
   ·rw[z]at J;rw[I];exact tF (pb J)
   ·rw[I];exact tF nq
  ·exact el h
 |rd a=>exact el (pk:=.rd a) h
 |own a=>exact el (pk:=.own a) h
 |io a=>exact el (pk:=.io a) h
 |rref a=>exact el (pk:=.rref a) h
 |rref2 a=>exact el (pk:=.rref2 a) h
 |iop a=>exact el (pk:=.iop a) h
 |clo f M=>exact el (pk:=.clo f M) h
 |hol a c off=>exact el (pk:=.hol a c off) h
theorem tG:∀ (u ls:List Leaf),st' EPO=st EPO->(∀ q∈ay u,st' q=st q)->b8 st' u ls=b8 st u ls
 |[],_,_,_=>by simp[b8]
 |x::u,[],_,_=>by cases x <;> simp[b8]
 |x::u,l::ls,y,h=>by
  have z:=tG u ls y (λq I=>h q (by rw[dv];exact BE _ I));cases x with
  |al r j v =>
   have H:st' r=st r:=h r (by simp[ay]);simp only[b8,z,bh H,bh y]
  |_=>simp only[b8,z]
theorem qb {p:Bool}:∀ (ps:List PK) (xs:List (aG×List Leaf)) (y:ah ps),st' EPO=st EPO->(∀ x∈xs,∀ q∈ay x.2,st' q=st q)->aF st' p ps xs y=aF st p ps xs y
 |[],_,_,_,_=>by simp[aF]
 |H::ps,[],y,_,h=>by cases H <;> simp[aF]
 |H::ps,x::xs,y,X,h=>by
  have I:=λ (y:ah ps)=>qb (p:=p) ps xs y X (λz Y=>h z (BF _ Y))
  have O:=h x (BG ..);cases H with
  |io a =>
   simp only[aF,I];rw[tG x.2 _ (bh X _) (λq u=>bh (O q u) _)]
  |iop a =>
   simp only[aF,I];have M:∀ q∈ay [cm x],st' q=st q:=λq u=>O q (iW u)
   congr 1;split
   ·rename_i b v J;rw[J]at M;rw[bh (M b (by simp[ay]))]
   ·rfl
  |_=>exact I _
theorem qc {n q:Nat}:∀ {ls:List Leaf} {k:Nat},q∈ay (aS ls k (.al TMP 0 n))->q∈ay ls\/q=TMP
 |[],_,h=>.inl h
 |l::ls,0,h=>by
  rw[show aS (l::ls) 0 (.al TMP 0 n)=.al TMP 0 n::ls from rfl,dv,BB]at h;rw[dv,BB];rcases h with h|h
  ·simp[ay]at h;exact .inr h
  ·exact .inl (.inr h)
 |l::ls,k+1,h=>by
  rw[show aS (l::ls) (k+1) (.al TMP 0 n)=l::aS ls k (.al TMP 0 n) from rfl,dv,BB]at h;rw[dv,BB];rcases h with h|h
  ·exact .inl (.inl h)
  ·exact (qc h).imp .inr id
theorem pc {U:Upd}{X ls:List Leaf}(hT:st' TMP=st TMP)(u:∀ q,q≠TMP->∀ z∈ay (ac U st q).ls,z∈ay (st q).ls)(J:ay (ac U st TMP).ls=[])(Z:eK st st' X)(H:∀ q∈ay ls,q∈ay X\/q=TMP) :
  eK (ac U st) (ac U st') ls:=by
 have I:∀ r z,z∈ay (ac U st r).ls->r≠TMP:=λr z hz e=>by subst e;rw[J]at hz;simp at hz
 refine⟨λq y=>?_,λr hr q y=>?_,λr hr M O q y=>?_⟩
 ·rcases H q y with h|h
  ·exact bh (Z.d1 q h) U
  ·subst h;exact bh hT U
 ·have Y:=I r q y;exact bh (Z.d2 r ((H r hr).resolve_right Y) q (u r Y q y)) U
 ·have Y:=I r M O;have h2:=I M q y;exact bh (Z.d3 r ((H r hr).resolve_right Y) M (u r Y M O) q (u M h2 q y)) U
theorem oA (Z:st' TMP=st TMP)(hE:st' EPO=st EPO):∀ (ps:List PK) (xs:List (aG×List Leaf)),(∀ x∈xs,eK st st' x.2)->cW st' ps xs=cW st ps xs /\
  ∀ (U:Upd) (X:List (aG×List Leaf)) (b:Option (Bool×Nat×Nat)),cW st ps xs=some (U,X,b)->(∀ y∈X,eK (ac U st) (ac U st') y.2)/\(∀ f r j,b=some (f,r,j)->st' r=st r)/\∀ ls,eK st st' ls->eK (ac U st) (ac U st') ls
 |[],xs,h=>⟨rfl,λU X b z=>by
   simp only[cW,BA,BS]at z;obtain⟨rfl,rfl,rfl⟩:=z;exact⟨h,(λ_ _ _ h=>by cases h),λ_ h=>h⟩⟩
 |_::_,[],h=>⟨rfl,λU X b z=>by
   simp only[cW,BA,BS]at z;obtain⟨rfl,rfl,rfl⟩:=z;exact⟨h,(λ_ _ _ h=>by cases h),λ_ h=>h⟩⟩
 |p::ps,x::xs,h=>by
  have hx:=h x (BG ..);obtain⟨i1,i2⟩:=oA Z hE ps xs (λy M=>h y (BF _ M));simp only[cW];cases hk:p.nest x.2 with
  |none =>
   simp only[i1,true_and];intro U X b z;simp only[BI]at z;obtain⟨u,O,z⟩:=z;simp only[BS]at z;obtain⟨rfl,rfl,rfl⟩:=z;obtain⟨j1,j2,j3⟩:=i2 u.1 u.2.1 u.2.2 O;refine⟨λy M=>?_,j2,j3⟩;rcases BO.1 M with rfl|M
   ·exact j3 _ hx
   ·exact j1 y M
  |some k =>
   obtain⟨l,a1,Y⟩:=rr hk;have hg:x.2.getD k .dead=l:=by rw[BP,a1];rfl
   have a0:∀ q∈aw [l],st' q=st q:=λq J=>hx.d1 q (fC (qG a1 q J))
   simp only[hg,qa Z hE a0,true_and];intro U X b z;simp only[BI]at z;obtain⟨u,O,z⟩:=z;simp only[BS]at z;obtain⟨rfl,rfl,rfl⟩:=z;obtain⟨n,e1,I⟩:=oy (U:=u.1) (l':=u.2) O;have H:=ux (U:=u.1) (l':=u.2) O;refine⟨λy M=>?_,λf r j hb=>?_,λls a2=>pc Z I H a2 (λq J=>.inl J)⟩
   ·rcases BO.1 M with rfl|M
    ·refine pc Z I H hx λq J=>?_
     have J:q∈ay (aS x.2 k u.2):=J;rw[e1]at J;exact qc J
    ·exact pc Z I H (h y (BF _ M)) (λq J=>.inl J)
   ·simp only[BA,BS]at hb;have hr:r=(j0 l).1:=by rw[hb.2]
    rw[hr];refine a0 _ ?_;cases l with
    |nal p ks ep a3 E e xs =>
     cases ks with
     |nil =>
      exfalso;simp only[cl]at O;cases hv:bj st [] ep <;> simp[hv]at O
     |cons k ks=>rw[iq];simp[j0]
    |_=>simp[jj]at Y
theorem yX {b:Option (Bool×Nat×Nat)}{U:Upd}(z:st' TMP=st TMP)(u:st' EPO=st EPO)(y:∀ f r j,b=some (f,r,j)->st' r=st r):jN st' b U κ=jN st b U κ:=by
 unfold jN;split
 ·rename_i r j;rw[bh (y true r j rfl),bh z,bh u]
 ·rfl
theorem tH {d:Nat}{f:FuncId}{xs:List (aG×List Leaf)}(hT:st' TMP=st TMP)(X:st' EPO=st EPO)(hx:∀ x∈xs,eK st st' x.2)(hd:st' d=st d)(hB:st' (B0+d)=st (B0+d)):jk Γ st' d f xs κ=jk Γ st d f xs κ:=by
 unfold jk;split
 ·rename_i c hc;obtain⟨n1,n2⟩:=oA hT X c.ps xs hx;rw[gy,gy,n1];cases hn:cW st c.ps xs with
  |none=>rfl
  |some u =>
   obtain⟨H,O,b⟩:=u;obtain⟨m1,m2,_⟩:=n2 H O b hn;simp only[B3];have hg:=kr (st:=ac H st) (st':=ac H st') (ga:=cd Γ (ac H st)) (ga':=cd Γ (ac H st')) c.ps O (λx I pk=>wo (m1 x I));simp only[oG,hg.1];split
   ·rename_i g a1;obtain⟨h1,h2⟩:=hg.2 g a1;have M:gD st' d c.rs=gD st d c.rs:=by
     unfold gD;split
     ·rw[hB]
     ·rfl
    have hL:∀ q,ac H st' q=ac H st q->∀ U,ac (U++H) st' q=ac (U++H) st q:=λq h U=>by rw[bz,bz];exact bh h U
    have Z:(bif c.fresh then [] else aE (ac H st') g.frz)=(bif c.fresh then [] else aE (ac H st) g.frz):=by rw[kb h1]
    have hk:∀ (U:Upd),aM (ac U (ac H st')) g.kill=aM (ac U (ac H st)) g.kill:=λU=>ir (λz Y=>bh (h2 z Y) U)
    have ho:∀ (U:Upd) (p:Bool) (y:ah c.ps),aF (ac (U++H) st') p c.ps O y=aF (ac (U++H) st) p c.ps O y:=λU p y =>
     qb c.ps O y (hL _ (bh X H) U) (λx I q hq=>hL _ ((m1 x I).d1 q hq) U)
    have J:∀ (U:Upd),(g.frz.map λk=>(k.1,k.2,(ac (U++H) st' k.1).ver))=g.frz.map λk=>(k.1,k.2,(ac (U++H) st k.1).ver):=λU=>Cb λz Y=>by rw[hL _ (h1 z Y) U]
    have a3:∀ U,ac U st' d=ac U st d:=λU=>bh hd U
    have a2:∀ U,ac U st' (B0+d)=ac U st (B0+d):=λU=>bh hB U
    have a0:∀ U,ac U st' EPO=ac U st EPO:=λU=>bh X U
    simp only[M,Z,hk,ho,a3,a2,a0,<- Bs,J,yX hT X m2]
   ·rfl
 ·rfl
theorem rF:∀ (u:List Ty) (xs:List (aG×List Leaf)),(∀ x∈xs,∀ q∈aw x.2,st' q=st q)->iI st' u xs=iI st u xs
 |[],[],_=>rfl
 |[],_::_,_=>rfl
 |_::_,[],_=>rfl
 |a::u,x::xs,h=>by
  simp only[iI,eC (h x (BG ..)),rF u xs (λy z=>h y (BF _ z))]
theorem wq {r j i off n:Nat}{p:Bool}{E:TypeId}{e:Ty}{xs:List e.den}{h:Option (Nat×Nat)}{ls:List Leaf}(Z:st' r=st r)(Y:st' EPO=st EPO)(H:∀ q∈aw ls,st' q=st q):gE st' r j i off n p E e xs h ls κ=gE st r j i off n p E e xs h ls κ:=by
 unfold gE;congr 1;funext u;rw[o9 e 0 u ls H];split
 ·rename_i t O;obtain⟨I,X⟩:=pa e 0 u ls t O;have J:aE st' t.frz=aE st t.frz:=kb (λz y=>H _ (I z y));have M:∀ U:Upd,aM (ac U st') t.kill=aM (ac U st) t.kill:=λU=>ir (λz y=>bh (H _ (X z y)) U)
  simp only[J,M,Z,bh Y]
 ·rfl
end
section
variable {P:Program} {V:Env} {Γ:List Ctr} {T:TypeId->TI} {st st':St} {o:Oper} {R:Type} {κ:Upd->Option R} {r:R}
theorem dw {H:List Nat}(h:∀ q∈H++H.flatMap (λt=>aw (st t).ls),st' q=st q){x:Operand}(z:∀ t,x=.tmp t->t∈H):(∀ t,x=.tmp t->st' t=st t)/\∀ q∈aw (au st x).2,st' q=st q:=by
 refine⟨λt y=>h t (BD _ (z t y)),λq u=>?_⟩;obtain⟨t,y,u⟩:=rA u;rcases u with rfl|u
 ·exact h q (BD _ (z q y))
 ·exact h q (BE _ (BT.2 ⟨t,z t y,u⟩))
theorem nr {H:List Nat}(h:∀ q∈H++H.flatMap (λt=>ay (st t).ls),st' q=st q){x:Operand}(z:∀ t,x=.tmp t->t∈H):(∀ t,x=.tmp t->st' t=st t)/\∀ q∈ay (au st x).2,st' q=st q:=by
 refine⟨λt y=>h t (BD _ (z t y)),λq u=>?_⟩;obtain⟨t,y,u⟩:=rB u;rcases u with rfl|u
 ·exact h q (BD _ (z q y))
 ·exact h q (BE _ (BT.2 ⟨t,z t y,u⟩))
theorem qd {y:List Nat}(h:∀ q∈kv st y,st' q=st q){x:Operand}(X:∀ t,x=.tmp t->t∈y):eK st st' (au st x).2:=by
 have I:∀ q,q∈y->st' q=st q:=λq u=>h q (by simp[kv];exact .inl u)
 have ha:∀ q,q∈y.flatMap (λt=>ay (st t).ls)->st' q=st q:=λq u=>h q (by
  unfold kv;exact BD _ (BD _ (BE _ u)))
 have O:∀ q,q∈(y.flatMap (λt=>ay (st t).ls)).flatMap (λt=>ay (st t).ls)->st' q=st q:=λq u=>h q (by
  unfold kv;exact BD _ (BE _ u))
 have hc:∀ q,q∈((y.flatMap (λt=>ay (st t).ls)).flatMap (λt=>ay (st t).ls)).flatMap (λt=>ay (st t).ls)->st' q=st q:=λq u=>h q (by
  unfold kv;exact BE _ u)
 have Y:∀ r∈ay (au st x).2,r∈y\/r∈y.flatMap (λt=>ay (st t).ls):=by
  intro r H;obtain⟨t,Z,u⟩:=rB H;rcases u with rfl|u
  ·exact .inl (X r Z)
  ·exact .inr (BT.2 ⟨t,X t Z,u⟩)
 have l2:∀ r∈ay (au st x).2,∀ q∈ay (st r).ls,q∈y.flatMap (λt=>ay (st t).ls)\/q∈(y.flatMap (λt=>ay (st t).ls)).flatMap (λt=>ay (st t).ls):=by
  intro r H q u;rcases Y r H with z|z
  ·exact .inl (BT.2 ⟨r,z,u⟩)
  ·exact .inr (BT.2 ⟨r,z,u⟩)
 refine⟨λq u=>(Y q u).elim (I q) (ha q),λr H q u=>(l2 r H q u).elim (ha q) (O q),λr H J M q u=>?_⟩;rcases l2 r H J M with z|z
 ·exact O q (BT.2 ⟨J,z,u⟩)
 ·exact hc q (BT.2 ⟨J,z,u⟩)
theorem bd {xs:Array Operand}{x:Operand}(h:x∈xs):∀ t,x=.tmp t->t∈iv xs.toList:=λt e=>rz (by rw[<- e];simpa using h)
theorem op_fr (h:∀ q∈fg st o,st' q=st q)(z:∀ x,o.op≠.move x)(H:∀ t x i,o.op≠.indexAddr t x i):∀ q∈cn st o.op,st' q=st q:=λq y=>h q (by
 unfold fg;refine BD _ ?_;cases u:o.op with
 |move x=>exact absurd u (z x)
 |indexAddr t x i=>exact absurd u (H t x i)
 |_=>rw[u]at y;exact y)
theorem Ak {α β:Type}{xs:List α}{n:Int}{K:Option β}:((idx xs n).bind λ_=>K)=if 0<=n/\n<xs.length then K else none:=by
 unfold idx;by_cases u:n<0
 ·rw[if_pos u,if_neg (by omega)];rfl
 ·rw[if_neg u];by_cases y:n.toNat<xs.length
  ·rw[BR y,if_pos (by omega)];rfl
  ·rw[CV (by omega),if_neg (by omega)];rfl
theorem Bd (h:∀ q∈fg st o,st' q=st q)(hh:∀ q∈eR st o.op,bJ (st' q)=bJ (st q)):act Γ T o st' κ=act Γ T o st κ:=by
 have M:=op_fr h;have a0:∀ (U:Upd) (d:Nat) (sh:aG) (ls:List Leaf),o.dst=some d->ck st' U d sh ls=ck st U d sh ls:=λU d sh ls hd=>u6 (tE hd h).1
 have hB:∀ d,o.dst=some d->st' (B0+d)=st (B0+d):=λd hd=>(tE hd h).2
 have hw:∀ (sh:aG) (ls:List Leaf),wrU o st' κ sh ls=wrU o st κ sh ls:=by
  intro sh ls;unfold wrU;split
  ·rename_i d hd;rw[a0 _ _ _ _ hd]
  ·rfl
 cases I:o.op with
 |move x =>
  simp only[I,eR]at hh;have e:au st' x=au st x:=xN λt Y=>hh t (bd (by simp[Op.operands]) t Y)
  simp only[act,I,e,hw]
 |assign x =>
  have H:=M (by simp[I]) (by simp[I]);simp only[I,cn]at H;have J:=dw H (x:=x) (bd (by simp[Op.operands]));have e:au st' x=au st x:=dS J.1;simp only[act,I,e,qI J.2,o8 J.2,tB J.2];split
  ·rename_i d hd;rw[a0 _ _ _ _ hd]
  ·rfl
 |pick c x y =>
  have H:=M (by simp[I]) (by simp[I]);simp only[I,cn]at H;have e1:one st' c=one st c:=dD λt Y=>H t (bd (by simp[Op.operands]) t Y)
  have e2:au st' x=au st x:=dS λt Y=>H t (bd (by simp[Op.operands]) t Y)
  have e3:au st' y=au st y:=dS λt Y=>H t (bd (by simp[Op.operands]) t Y)
  simp only[act,I,e1,e2,e3,hw]
 |alloc t =>
  simp only[act,I];split
  ·rename_i d hd;rw[a0 _ _ _ _ hd,hB d hd]
  ·rfl
 |box t x =>
  have H:=M (by simp[I]) (by simp[I]);simp only[I,cn]at H;have J:=dw H (x:=x) (bd (by simp[Op.operands]));have e:au st' x=au st x:=dS J.1;have b0:sf st' x=sf st x:=by cases x <;> first|rfl|(simp only[sf];rw[J.1 _ rfl])
  simp only[act,I,e,qI J.2,o8 J.2,tB J.2,b0];split
  ·rename_i d hd;simp only[a0 _ _ _ _ hd,hB d hd,bh (hB d hd)]
  ·rfl
 |build t a2 =>
  have H:=M (by simp[I]) (by simp[I]);simp only[I,cn]at H;have hb:∀ a5 ls,ff st' a5 a2.toList ls=ff st a5 a2.toList ls:=λa5 ls=>p9 _ _ (λx J t Y=>H t (bd (by simp only[Op.operands,Cn,BL];exact⟨x,J,rfl⟩) t Y))
  simp only[act,I,hw,hb]
 |buildSlice t n a2 =>
  have H:=M (by simp[I]) (by simp[I]);simp only[I,cn]at H;have J:∀ x∈a2.toList,(∀ t,x.2=.tmp t->st' t=st t)/\∀ q∈aw (au st x.2).2,st' q=st q:=λx J =>
   dw H (bd (by simp only[Op.operands,Cn,BL];exact⟨x,J,rfl⟩))
  simp only[act,I];split
  ·rw[ov _ _ J];split
   ·rename_i u c2;have c1:=ox _ _ _ c2;have b3:∀ z,z∈u.frz\/z∈u.kill->st' z.1=st z.1:=λz hz=>by
     obtain⟨x,c0,bl⟩:=c1 z hz;exact (J x c0).2 _ bl
    have e1:aE st' u.frz=aE st u.frz:=kb λz hz=>b3 z (.inl hz)
    have e2:∀ U:Upd,aM (ac U st') u.kill=aM (ac U st) u.kill:=λU=>ir (λz hz=>bh (b3 z (.inr hz)) U)
    simp only[e1,e2];congr 1;split
    ·rename_i d hd;rw[a0 _ _ _ _ hd]
    ·rfl
   ·rfl
  ·rfl
 |load t x =>
  have H:=M (by simp[I]) (by simp[I]);simp only[I,cn]at H;have J:=nr H (x:=x) (bd (by simp[Op.operands]));have e:one st' x=one st x:=dD J.1;have X:∀ q∈ay [one st x],st' q=st q:=λq O=>J.2 q (tC O)
  simp only[act,I,e,hw];congr 1;split
  ·rfl
  ·rename_i b off Z;rw[Z]at X;rw[X b (by simp[ay])]
  ·rfl
  ·rename_i p ks ep a y off Z;rw[Z]at X;rw[jB (λq O=>X q (by simpa[ay]using O))]
  ·rename_i r j v i sz off Z;rw[Z]at X;rw[cj (l:=.al r j v) (λq O=>X q (by simp[aw]at O;simp[ay,O])),X EPO (by simp[ay])]
  ·rfl
 |store t x y =>
  have H:=M (by simp[I]) (by simp[I]);simp only[I,cn]at H;have J:=nr H (x:=x) (bd (by simp[Op.operands]));have hy:=nr H (x:=y) (bd (by simp[Op.operands]));have e:one st' x=one st x:=dD J.1;have e2:au st' y=au st y:=dS hy.1;have X:∀ q∈ay [one st x],st' q=st q:=λq O=>J.2 q (tC O)
  have a9:∀ q∈aw (au st y).2,st' q=st q:=λq O=>hy.2 q (fC O)
  simp only[act,I,e,e2,qI a9,o8 a9,tB a9];split
  ·rfl
  ·congr 1;split
   ·rename_i b off Z;rw[Z]at X;have hb:=X b (by simp[ay]);simp only[hb,bh hb]
   ·rename_i r j v i sz off Z;rw[Z]at X;have bn:=X r (by simp[ay]);rw[cj (l:=.al r j v) (λq O=>X q (by simp[aw]at O;simp[ay,O]))];split
    ·rw[wq bn (X EPO (by simp[ay])) a9]
    ·rfl
   ·rfl
 |nilCheck x =>
  have H:=M (by simp[I]) (by simp[I]);simp only[I,cn]at H;have J:=dw H (x:=x) (bd (by simp[Op.operands]));have e:one st' x=one st x:=dD J.1;have X:∀ q∈aw [one st x],st' q=st q:=λq O=>J.2 q (jg O)
  simp only[act,I,e,hw];split
  ·rfl
  ·rfl
  ·rename_i r j v i sz off Z;rw[Z]at X;rw[X r (by simp[aw])]
  ·rfl
  ·rename_i p ks ep a y off Z;rw[Z,u5]at X;rw[jB X]
  ·rfl
 |binOp op t x y t' =>
  have H:=M (by simp[I]) (by simp[I]);simp only[I,cn]at H;have J:=dw H (x:=x) (bd (by simp[Op.operands]));have hy:=dw H (x:=y) (bd (by simp[Op.operands]));have e1:one st' x=one st x:=dD J.1;have e2:one st' y=one st y:=dD hy.1;have e3:au st' x=au st x:=dS J.1;have e4:au st' y=au st y:=dS hy.1;simp only[act,I,e1,e2,e3,e4,hw,eC J.2,eC hy.2]
 |unOp op t x =>
  have H:=M (by simp[I]) (by simp[I]);simp only[I,cn]at H;have e1:one st' x=one st x:=dD λt Y=>H t (bd (by simp[Op.operands]) t Y)
  simp only[act,I,e1,hw]
 |convert s t x =>
  have H:=M (by simp[I]) (by simp[I]);simp only[I,cn]at H;have J:=dw H (x:=x) (bd (by simp[Op.operands]));have e1:one st' x=one st x:=dD J.1;have X:∀ q∈aw [one st x],st' q=st q:=λq O=>J.2 q (jg O)
  simp only[act,I,e1,hw];split
  ·rfl
  ·rw[cj X]
  ·rfl
  ·rfl
 |makeSlice t n c =>
  have H:=M (by simp[I]) (by simp[I]);simp only[I,cn]at H;have e1:one st' n=one st n:=dD λt Y=>H t (bd (by simp[Op.operands]) t Y)
  have e2:one st' c=one st c:=dD λt Y=>H t (bd (by simp[Op.operands]) t Y)
  simp only[act,I,e1,e2,hw]
 |slice t x lo hi mx =>
  have H:=M (by simp[I]) (by simp[I]);simp only[I,cn]at H;have hE:=H EPO (BG ..);have H:=λq O=>H q (BF _ O)
  have J:=dw H (x:=x) (bd (by simp[Op.operands]));have bx:∀ n,dh st' lo n=dh st lo n:=λn=>nl λy hy t Y=>H t (BD _ (bd (by simp[Op.operands,hy]) t Y))
  have ba:∀ n,dh st' hi n=dh st hi n:=λn=>nl λy hy t Y=>H t (BD _ (bd (by simp[Op.operands,hy]) t Y))
  have e:one st' x=one st x:=dD J.1;have X:∀ q∈aw [one st x],st' q=st q:=λq O=>J.2 q (jg O)
  have b9:∀ m,mx=some m->dh st' (some m) 0=dh st (some m) 0:=λm hm=>nl λy hy t Y=>H t (BD _ (bd (by simp[Op.operands,hm,Cs hy]) t Y))
  simp only[act,I,e,bx,ba,cj X,hE];cases hd:o.dst with
  |none=>cases mx <;> rfl
  |some d =>
   cases mx with
   |none=>simp only[a0 _ _ _ _ hd]
   |some m =>
    simp only[b9 m rfl];split
    ·rename_i r j v _ Z _;rw[Z]at X;rw[cj X,ir (st:=st) (st':=st') (λz hz=>by simp at hz;subst hz;exact X _ (by simp[aw]))];simp only[a0 _ _ _ _ hd]
    ·rfl
 |fieldAddr t x f =>
  have H:=M (by simp[I]) (by simp[I]);simp only[I,cn]at H;have J:=dw H (x:=x) (bd (by simp[Op.operands]));have e:one st' x=one st x:=dD J.1;have X:∀ q∈aw [one st x],st' q=st q:=λq O=>J.2 q (jg O)
  simp only[act,I,e,hw];split
  ·split
   ·split
    ·rfl
    ·rfl
    ·rename_i r j v i sz off Z;rw[Z]at X;rw[X r (by simp[aw])]
    ·rename_i p ks ep a y o' Z;rw[Z,u5]at X;rw[jB X]
    ·rfl
   ·rfl
  ·rfl
 |field t x f =>
  have H:=M (by simp[I]) (by simp[I]);simp only[I,cn]at H;have e1:au st' x=au st x:=dS λt Y=>H t (bd (by simp[Op.operands]) t Y)
  simp only[act,I,e1,hw]
 |indexAddr t x i =>
  simp only[I,eR]at hh;have b5:∀ y∈(Op.indexAddr t x i).operands,∀ t,y=.tmp t->bJ (st' t)=bJ (st t):=λy hy t Y=>hh t (BD _ (bd hy t Y))
  have e:one st' x=one st x:=zq (b5 x (by simp[Op.operands]));have e2:one st' i=one st i:=zq (b5 i (by simp[Op.operands]));have X:∀ q∈aw [one st x],bJ (st' q)=bJ (st q):=λq O=>by
   obtain⟨t',bb,O⟩:=rA (jg O);have a6:=bd (xs:=(Op.indexAddr t x i).operands) (x:=x) (by simp[Op.operands]) t' bb;rcases O with rfl|O
   ·exact hh q (BD _ a6)
   ·exact hh q (BE _ (BT.2 ⟨t',a6,O⟩))
  simp only[act,I,e,e2,hw];split
  ·split
   ·rfl
   ·split
    ·rename_i r j v Z;rw[Z]at X;have O:=X r (by simp[aw]);have hv:(st' r).ver=(st r).ver:=by simp only[bJ,BS]at O;exact O.1
     simp only[aD,hv];cases BJ (st r).ver v with
     |false=>rfl
     |true =>
      simp only[cond_true];rcases tD (xO O j) with e3|⟨p,p',h1,h2,E1,E2,e',c4,xs,c5,e3,e4,e5,e6⟩
      ·rw[e3]
      ·rw[e3,e4];simp only[pj,e5,Ak,e6]
    ·rfl
    ·rename_i p ks ep c3 E' e' xs Z;rw[Z,iq]at X;rw[yW X]
    ·rfl
   ·rfl
  ·rfl
 |index t x i =>
  have H:=M (by simp[I]) (by simp[I]);simp only[I,cn]at H;have J:=dw H (x:=x) (bd (by simp[Op.operands]));have e1:one st' x=one st x:=dD J.1;have e2:one st' i=one st i:=dD (dw H (x:=i) (bd (by simp[Op.operands]))).1;have e3:au st' x=au st x:=dS J.1;simp only[act,I,e1,e2,e3,hw,λe n=>ni (e:=e) n _ J.2]
 |extract x i =>
  have H:=M (by simp[I]) (by simp[I]);simp only[I,cn]at H;have e1:au st' x=au st x:=dS λt Y=>H t (bd (by simp[Op.operands]) t Y)
  simp only[act,I,e1,hw]
 |makeFunc fn first a3 =>
  have H:=M (by simp[I]) (by simp[I]);simp only[I,cn]at H;cases fn with
  |func f =>
   have:si st' a3.toList=si st a3.toList:=u7 (st:=st) (st':=st') a3.toList (some []) (λx J t Y=>H t (bd (by simp[Op.operands];exact .inr (by simpa using J)) t Y));simp only[act,I,hw,this]
  |_=>simp only[act,I]
 |call c =>
  have H:=M (by simp[I]) (by simp[I]);simp only[I,cn]at H;simp only[act,I];split
  ·rfl
  ·rename_i d hd;obtain⟨b1,b4⟩:=tE hd h;cases hc:c.callee with
   |value f =>
    simp only[hc]at H;have hT:=H TMP (BG ..);have hE:=H EPO (BF _ (BG ..));have H:=λq O=>H q (BF _ (BF _ O))
    have b2:f∈(Op.call c).operands:=by simp[Op.operands,Call.operands,hc]
    have ad:∀ x∈c.args.toList,x∈(Op.call c).operands:=λx J=>by
     simp only[Op.operands,Call.operands,hc,Co];exact .inr (by simpa using J)
    have a6:∀ x∈(Op.call c).operands,∀ t,x=.tmp t->st' t=st t:=λx J t Y=>H t (by
     unfold kv;exact BD _ (BD _ (BD _ (bd J t Y))))
    have e1:one st' f=one st f:=dD (a6 f b2);have e2:c.args.toList.map (au st')=c.args.toList.map (au st):=Cb λx J=>dS (a6 x (ad x J))
    have a4:∀ x∈c.args.toList.map (au st),eK st st' x.2:=by
     intro x J;obtain⟨y,hy,rfl⟩:=BL.1 J;exact qd H (bd (ad y hy))
    simp only[e1,e2];split
    ·rename_i g a3 Z;refine tH hT hE ?_ b1 b4;intro x J;rcases BB.1 J with J|J
     ·exact a4 x J
     ·obtain⟨b,hb,rfl⟩:=BL.1 J;have hf:=qd H (bd b2);rw[qJ Z (by simp)]at hf;exact pb hf _ (BL.2 ⟨b,hb,rfl⟩)
    ·rename_i g a3 Z;refine tH hT hE ?_ b1 b4;intro x J;rcases BB.1 J with J|J
     ·exact a4 x J
     ·obtain⟨cp,b6,rfl⟩:=BL.1 J;exact nq _ (BL.2 ⟨cp,b6,rfl⟩)
    ·rename_i As B φ Z;rw[rF As _ (λx J q O=>(a4 x J).d1 q (fC O))];simp only[hw]
    ·rfl
   |builtin b =>
    simp only[hc]at H;have hT:=H TMP (BG ..);have H:=λq O=>H q (BF _ O)
    have ad:∀ x∈c.args.toList,x∈(Op.call c).operands:=λx J=>by
     simp only[Op.operands,Call.operands,hc,Co];exact .inr (by simpa using J)
    have J:∀ x∈c.args.toList,one st' x=one st x/\∀ q∈aw [one st x],st' q=st q:=λx J=>by
     have:=dw H (bd (ad x J));exact⟨dD this.1,λq O=>this.2 q (jg O)⟩
    cases b with
    |len =>
     dsimp only;split
     ·rename_i x a1;have h1:=J x (by rw[a1];simp);simp only[h1.1,cj h1.2,hw]
     ·rfl
    |append =>
     dsimp only;split
     ·rename_i x y t u a1 _;have h1:=J x (by rw[a1];simp);have h2:=J y (by rw[a1];simp);split
      ·rw[h1.1,h2.1,wn hT h1.2 h2.2 b1]
      ·rfl
     ·rfl
    |min =>
     dsimp only;split
     ·rename_i x y a1;rw[(J x (by rw[a1];simp)).1,(J y (by rw[a1];simp)).1];simp only[hw]
     ·rfl
    |max =>
     dsimp only;split
     ·rename_i x y a1;rw[(J x (by rw[a1];simp)).1,(J y (by rw[a1];simp)).1];simp only[hw]
     ·rfl
    |_=>rfl
   |invoke x n=>rfl
 |_=>simp only[act,I]
end
section
variable {P:Program} {V:Env} {Γ:List Ctr} {T:TypeId->TI} {st st':St} {o:Oper} {R:Type} {all:Array Oper}
def mo (Γ:List Ctr)(T:TypeId->TI)(all:Array Oper)(o:Oper)(st:St)(U:Upd):Prop :=
 match o.guard with
 |none=>act Γ T o st some=some U
 |some (j,r)=>∃ t,(all[j]?).bind (·.dst)=some t /\
  ((∃ b,(st t).sh=.one/\(st t).ls=[.bool b]/\((b=r/\act Γ T o st some=some U)\/(b≠r/\U=eE st o)))\/((st t).sh=.und/\U=eE st o))
def jC (Γ:List Ctr)(T:TypeId->TI)(all:Array Oper)(o:Oper)(st:St)(U:Upd)(t:cL):Prop :=
 ((∀ q∈U.map (·.1),q∈t.wr\/q∈t.cw)/\(∀ q∈t.wr,q∈U.map (·.1))/\∀ q,q∈U.map (·.1)->q∉t.wr->bJ (ac U st q)=bJ (st q))/\match o.guard with
 |none=>act Γ T o st some=some U/\(∀ q∈fg st o,q∈t.rd)/\∀ q∈eR st o.op,q∈t.hd
 |some (j,r)=>∃ s,(all[j]?).bind (·.dst)=some s/\s∈t.rd /\
  ((∃ b,(st s).sh=.one/\(st s).ls=[.bool b]/\((b=r/\act Γ T o st some=some U/\(∀ q∈fg st o,q∈t.rd)/\∀ q∈eR st o.op,q∈t.hd)\/(b≠r/\U=eE st o/\∀ d,o.dst=some d->d∈t.wr))) \/
   ((st s).sh=.und/\U=eE st o/\∀ d,o.dst=some d->d∈t.wr))
theorem tI {α:Type}:∀ {l:List α} {j:Nat} {x:α},l[j]?=some x->l.set j x=l
 |[],_,_,h=>by simp at h
 |y::l,0,x,h=>by simp at h;subst h;rfl
 |y::l,j+1,x,h=>by rw[Ch,tI (by simpa using h)]
theorem Al {U:Upd}(h:act Γ T o st some=some U):∀ q∈dZ st o,bJ (ac U st q)=bJ (st q):=by
  intro q u;unfold dZ at u;split at u
  · rename_i t x y J
    split at u
    · rename_i r j a1 i sz off hx
      simp only[Bv]at u;subst u;simp only[act,wrU,J]at h;split at h
      · cases h
      · cases M:BJ (au st y).2.length (T t).cells&&decide ((au st y).1=bf (T t).agg)&&!decide ((T t).cells=0) with
        |false=>simp[M]at h
        |true =>
          simp only[M,cond_true,hx]at h;split at h
          · rename_i p hh E e xs hd
            cases Z:BJ sz e.cells&&decide (off+(au st y).2.length<=e.cells)&&rV q with
            |false=>simp[Z]at h
            |true =>
              simp only[Z,cond_true]at h;obtain⟨_,hl⟩:=eX hd (by simp);have z:∀ (O:Bool) (I:Option (Nat×Nat)) (v:e.den) (X:Upd),bJ (ac ((q,⟨(st q).ver,(st q).sh,aS (st q).ls j (.own O I E e (xs.set i v))⟩)::X) st q)=bJ (st q):=by
                intro O I v X;rw[aO,bg];simp only[bJ,aS];rw[List.map_set,tI];rw[Ck,hl];simp[jo]
              unfold gE at h;obtain⟨a0,_,h⟩:=Bt.1 h;split at h
              · rename_i t _
                cases H:t.rest.isEmpty&&aX t.kill&&dC t.frz t.kill&&!((t.kill++t.frz).any λk=>BJ k.1 q) with
                |false=>rw[H]at h;cases h
                |true =>
                  simp only[H,cond_true]at h;cases hh with
                  |none =>
                    simp only[BA]at h;rw[<- h];exact z _ _ _ _
                  |some hp =>
                    obtain⟨hi,ho⟩:=hp;simp only at h;cases h1:Ca off ho&&CT ho (off+(au st y).2.length) with
                    |false =>
                      rw[h1]at h;simp only[cond_false,BA]at h;rw[<- h];exact z _ _ _ _
                    |true =>
                      rw[h1]at h;simp only[cond_true]at h;cases Y:BJ i hi with
                      |false=>rw[Y]at h;cases h
                      |true =>
                        rw[Y]at h;simp only[cond_true,BA]at h;rw[<- h];exact z _ _ _ _
              · cases h
          · cases h
    · simp at u
  · simp at u
theorem pd {t:Nat}{b:Bool}(r:(st t).sh=.one)(u:(st t).ls=[.bool b]):lit st t b=st:=by
 funext q;unfold lit;rcases ak t q ⟨(st t).ver,.one,[.bool b]⟩ st with ⟨rfl,e⟩|⟨_,e⟩
 ·rw[e,<- r,<- u]
 ·exact e
theorem wt {U:Upd}(h:act Γ T o st some=some U):(∀ q∈U.map (·.1),q∈(U.map (·.1)).filter (λq=>!((dZ st o).any (BJ q)))\/q∈dZ st o)/\(∀ q∈(U.map (·.1)).filter (λq=>!((dZ st o).any (BJ q))),q∈U.map (·.1)) /\
  ∀ q,q∈U.map (·.1)->q∉(U.map (·.1)).filter (λq=>!((dZ st o).any (BJ q)))->bJ (ac U st q)=bJ (st q):=by
 have r:∀ q,(dZ st o).any (BJ q)=true->q∈dZ st o:=λq u=>by
  obtain⟨x,z,H⟩:=CE.1 u;rw[BH H];exact z
 refine⟨λq u=>?_,λq u=>(B9.1 u).1,λq u I=>?_⟩
 ·cases y:(dZ st o).any (BJ q) with
  |true=>exact .inr (r q y)
  |false=>exact .inl (B9.2 ⟨u,by rw[y];rfl⟩)
 ·refine Al h q (r q ?_);cases y:(dZ st o).any (BJ q) with
  |true=>rfl
  |false=>exact absurd (B9.2 ⟨u,by rw[y];rfl⟩) I
theorem Am {κ:St->cL->Option R}{r:R}(h:opK Γ T all o st κ=some r):∃ U t,jC Γ T all o st U t/\κ (ac U st) t=some r:=by
 have Y:∀ (I:List Nat),act Γ T o st (λU=>κ (ac U st) ⟨I++fg st o,eR st o.op,(U.map (·.1)).filter (λq=>!((dZ st o).any (BJ q))),dZ st o⟩)=some r ->
   ∃ U,act Γ T o st some=some U/\κ (ac U st) ⟨I++fg st o,eR st o.op,(U.map (·.1)).filter (λq=>!((dZ st o).any (BJ q))),dZ st o⟩=some r:=by
  intro I h;rw[tA]at h;obtain⟨U,M,X⟩:=Bt.1 h;exact⟨U,M,X⟩
 have u:((∀ q∈(eE st o).map (·.1),q∈o.dst.toList\/q∈([]:List Nat))/\(∀ q∈o.dst.toList,q∈(eE st o).map (·.1))/\∀ q,q∈(eE st o).map (·.1)->q∉o.dst.toList->bJ (ac (eE st o) st q)=bJ (st q)):=by
  unfold eE;cases o.dst with
  |none=>simp
  |some d=>simp
 unfold opK at h;unfold jC;cases hg:o.guard with
 |none =>
  simp only[hg]at h;obtain⟨U,M,X⟩:=Y [] h;exact⟨U,_,⟨wt M,M,λq z=>by simpa using z,λq z=>z⟩,X⟩
 |some jw =>
  obtain⟨j,O⟩:=jw;simp only[hg]at h;split at h
  ·rename_i t Z;have H:∀ d,o.dst=some d->d∈o.dst.toList:=λd hd=>by simp[hd]
   split at h
   ·rename_i b y J;have hl:∀ b',b'=b->lit st t b'=st:=λb' e=>pd y (by rw[J,e])
    cases b with
    |true =>
     simp only[cond_true,hl true rfl]at h;cases O with
     |true =>
      simp only[cond_true]at h;obtain⟨U,M,X⟩:=Y [t] h;exact⟨U,_,⟨wt M,t,Z,by simp,.inl ⟨true,y,J,.inl ⟨rfl,M,λq z=>BE _ z,λq z=>z⟩⟩⟩,X⟩
     |false =>
      simp only[cond_false]at h;exact⟨eE st o,_,⟨u,t,Z,by simp,.inl ⟨true,y,J,.inr ⟨by simp,rfl,H⟩⟩⟩,h⟩
    |false =>
     simp only[cond_false,hl false rfl]at h;cases O with
     |true =>
      simp only[cond_true]at h;exact⟨eE st o,_,⟨u,t,Z,by simp,.inl ⟨false,y,J,.inr ⟨by simp,rfl,H⟩⟩⟩,h⟩
     |false =>
      simp only[cond_false]at h;obtain⟨U,M,X⟩:=Y [t] h;exact⟨U,_,⟨wt M,t,Z,by simp,.inl ⟨false,y,J,.inl ⟨rfl,M,λq z=>BE _ z,λq z=>z⟩⟩⟩,X⟩
   ·rename_i y;exact⟨eE st o,_,⟨u,t,Z,by simp,.inr ⟨y,rfl,H⟩⟩,h⟩
   ·cases h
  ·cases h
theorem u9 {U:Upd}(e:U=eE st o)(u:∀ d,o.dst=some d->st' d=st d):U=eE st' o:=by
 rw[e];unfold eE;cases r:o.dst with
 |none=>rfl
 |some d=>simp only[u d r]
theorem jC.frame {U:Upd}{t:cL}(h:jC Γ T all o st U t)(u:∀ q,q∈t.rd\/q∈t.wr->st' q=st q)(hh:∀ q∈t.hd,bJ (st' q)=bJ (st q)):mo Γ T all o st' U:=by
 obtain⟨_,h⟩:=h;have r:act Γ T o st some=some U->(∀ q∈fg st o,q∈t.rd)->(∀ q∈eR st o.op,q∈t.hd)->act Γ T o st' some=some U:=by
  intro h1 J y;rw[Bd (λq z=>u q (.inl (J q z))) (λq z=>hh q (y q z))];exact h1
 unfold mo;cases hg:o.guard with
 |none =>
  rw[hg]at h;exact r h.1 h.2.1 h.2.2
 |some jw =>
  obtain⟨j,a1⟩:=jw;rw[hg]at h;obtain⟨s,h1,J,y⟩:=h;have a0:=u s (.inl J);refine⟨s,h1,?_⟩;rw[a0];rcases y with ⟨b,O,H,h6⟩|⟨O,H,h6⟩
  ·refine .inl ⟨b,O,H,?_⟩;rcases h6 with ⟨X,Y,Z,M⟩|⟨X,Y,Z⟩
   ·exact .inl ⟨X,r Y Z M⟩
   ·exact .inr ⟨X,u9 Y (λd I=>u d (.inr (Z d I)))⟩
  ·exact .inr ⟨O,u9 H (λd I=>u d (.inr (h6 d I)))⟩
theorem wu (hV:ax V)(hT:TOk P T)(hΓ:∀ c∈Γ,bO P c){ops:Array Oper}{i:Nat}(hi:ops[i]?=some o)(O:bM V o)(z:∀ j u,o.guard=some (j,u)->∀ s,(ops[j]?).bind (·.dst)=some s->s<V.nt)
  {U:Upd} (h:mo Γ T ops o st U) {a:Act} {w:World} (H:Rel P V st a w) {K:Act->World->Prop} {Q:Exit->Act->World->Prop} (hK:∀ a' w',Rel P V (ac U st) a' w'->K a' w'):wpOp P ops Q i K a w:=by
 obtain⟨W,H⟩:=H;unfold wpOp;simp only[hi];have Z:act Γ T o st some=some U->o.wp P a w K Q:=by
  intro h1;obtain⟨U',h2,X⟩:=Bc hV hT hΓ O h1;cases h2;exact X W a w H K Q hK
 have y:U=eE st o->K (a.put o.dst undef) w:=by
  intro e;refine hK _ _ ?_;subst e;unfold eE;cases hd:o.dst with
  |none=>exact⟨W,H⟩
  |some d=>exact H.putLs hV d (O d hd).1 (O d hd).2 _ .und [] undef [] (B7 _) ⟨rfl,rfl⟩ trivial
 unfold mo at h;cases M:o.guard with
 |none =>
  rw[M]at h;have J:Region.wanted o (yielded ops a.tmps)=true:=by simp[Region.wanted,M]
  rw[if_pos J];exact .inl (Z h)
 |some jw =>
  obtain⟨j,u⟩:=jw;rw[M]at h;obtain⟨s,h1,h2⟩:=h;have a0:=z j u M s h1;have a2:s<GH:=Ci a0 hV.nt;have r:=H.slots s a2;have a3:s<a.tmps.size:=by rw[H.nt];exact a0
  have I:a.tmps[s]?=some (a.tmps.getD s undef):=by
   rw[BN,BM a3];rfl
  rcases h2 with ⟨b,X,h4,h5⟩|⟨X,h5⟩
  ·have a1:=H.len s;rw[h4]at a1;rw[X]at r;have r:W.cs s=[a.tmps.getD s undef]:=r;have Y:=H.leaf s 0 (.bool b) (a.tmps.getD s undef) (by rw[h4];rfl) (by rw[r];rfl);have Y:a.tmps.getD s undef=.bool b:=Y;have hy:yielded ops a.tmps j=some b:=by simp[yielded,h1,I,Y]
   rcases h5 with ⟨rfl,h6⟩|⟨h6,h7⟩
   ·have J:Region.wanted o (yielded ops a.tmps)=true:=by simp[Region.wanted,M,hy]
    rw[if_pos J];exact .inl (Z h6)
   ·have J:Region.wanted o (yielded ops a.tmps)=false:=by
     simp only[Region.wanted,M,hy];cases b <;> cases u <;> simp at h6 <;> rfl
    rw[J];exact y h7
  ·rw[X]at r;obtain⟨Y,_⟩:=r;have hy:yielded ops a.tmps j=none:=by
    unfold yielded;rw[h1,B3,I,Y];rfl
   have J:Region.wanted o (yielded ops a.tmps)=false:=by simp[Region.wanted,M,hy]
   rw[J];exact y h5
def Run (Γ:List Ctr)(T:TypeId->TI)(all:Array Oper):St->List Oper->List Upd->List cL->St->Prop
 |st,[],[],[],st'=>st'=st
 |st,o::r,U::y,t::u,st'=>jC Γ T all o st U t/\Run Γ T all (ac U st) r y u st'
 |_,_,_,_,_=>False
theorem pe:∀ (H:List Oper) (st:St) (y:List cL) (z:St->List cL->Option R) (r:R),qi Γ T all H st y z=some r ->
  ∃ I u st',Run Γ T all st H I u st'/\z st' (y++u)=some r
 |[],st,y,z,r,h=>⟨[],[],st,rfl,by simpa[qi]using h⟩
 |o::H,st,y,z,r,h=>by
  simp only[qi]at h;obtain⟨U,t,M,O⟩:=Am h;obtain⟨I,u,st',X,J⟩:=pe H (ac U st) (y++[t]) z r O;exact⟨U::I,t::u,st',⟨M,X⟩,by rw[Bs]at J;exact J⟩
theorem jC.res {U:Upd}{t:cL}(h:jC Γ T all o st U t):mo Γ T all o st U:=h.frame (λ_ _=>rfl) (λ_ _=>rfl)
theorem va (Y:ax V)(X:TOk P T)(hΓ:∀ c∈Γ,bO P c){ops:Array Oper}(z:∀ (i:Nat) (o:Oper),ops[i]?=some o->bM V o)
  (r:∀ (i:Nat) (o:Oper),ops[i]?=some o->∀ j y,o.guard=some (j,y)->∀ s,(ops[j]?).bind (·.dst)=some s->s<V.nt) {Q:Exit->Act->World->Prop} :
  ∀ (u:List Oper) (k:Nat) (st:St) (us:List Upd) (O:List cL) (st':St),ops.toList.drop k=u->Run Γ T ops st u us O st'->(∀ a w,Rel P V st' a w->Q .normal a w) ->
   ∀ a w,Rel P V st a w->wpOps P ops Q (List.range' k u.length) a w
 |[],k,st,[],[],st',_,h,H,a,w,M=>by
  have h:st'=st:=h;subst h;exact H a w M
 |o::u,k,st,U::us,t::O,st',Z,h,H,a,w,M=>by
  obtain⟨h1,h2⟩:=h;have I:ops[k]?=some o:=by
   have:(ops.toList.drop k)[0]?=some o:=by rw[Z];rfl
   rw[List.getElem?_drop]at this;simpa using this
  rw[B4,List.range'_succ,wpOps_cons];refine wu Y X hΓ I (z k o I) (r k o I) h1.res M (λa' w' J=>?_);exact va Y X hΓ z r u (k+1) (ac U st) us O st' (by rw[<- CX,Z];rfl) h2 H a' w' J
end
section
variable {P:Program} {V:Env} {Γ:List Ctr} {T:TypeId->TI} {st st':St} {o:Oper} {R:Type} {all:Array Oper}
def de (D:Nat->Bool):List Upd->St->St
 |[],st=>st
 |U::r,st=>de (λj=>D (j+1)) r (bif D 0 then ac U st else st)
theorem jh {q:Nat}:∀ {U:Upd} (s u:St),q∈U.map (·.1)->ac U s q=ac U u q
 |[],_,_,h=>by simp at h
 |(r,c)::U,s,u,h=>by
  simp only[ac];cases y:BJ q r with
  |true=>rfl
  |false =>
   simp only[cond_false];refine jh s u ?_;simp only[BY,BO]at h;rcases h with rfl|h
   ·simp at y
   ·exact h
theorem eD {q:Nat}:∀ {U:Upd} (s:St),q∉U.map (·.1)->ac U s q=s q
 |[],_,_=>rfl
 |(r,c)::U,s,h=>by
  simp only[BY,BO,not_or]at h;have u:BJ q r=false:=by
   cases u:BJ q r with
   |false=>rfl
   |true=>exact absurd (BH u) h.1
  simp only[ac,u,cond_false];exact eD s h.2
theorem xP {U u:Upd}(h:∀ q,q∈U.map (·.1)->q∉u.map (·.1))(s:St):ac u (ac U s)=ac U (ac u s):=by
 funext q;by_cases r:q∈U.map (·.1)
 ·rw[eD _ (h q r)];exact jh _ _ r
 ·rw[eD (U:=U) _ r];by_cases y:q∈u.map (·.1)
  ·exact jh _ _ y
  ·rw[eD _ y,eD _ y,eD _ r]
theorem mp:∀ {us:List Upd} {D D':Nat->Bool} {s:St},(∀ j,j<us.length->D j=D' j)->de D us s=de D' us s
 |[],_,_,_,_=>rfl
 |U::us,D,D',s,h=>by
  simp only[de];rw[h 0 (by simp)];exact mp (λj r=>h (j+1) (by simpa using r))
theorem nu:∀ {us:List Upd} {D:Nat->Bool} {s:St},(∀ j,D j=false)->de D us s=s
 |[],_,_,_=>rfl
 |U::us,D,s,h=>by
  simp only[de,h 0,cond_false];exact nu (λj=>h (j+1))
theorem mq {q:Nat}:∀ {us:List Upd} {D D':Nat->Bool} {s r:St},s q=r q->(∀ (j:Nat) (U:Upd),us[j]?=some U->q∈U.map (·.1)->D j=D' j)->de D us s q=de D' us r q
 |[],_,_,_,_,h,_=>h
 |U::us,D,D',s,r,h,H=>by
  simp only[de];refine mq ?_ (λj M y z=>H (j+1) M (by simpa using y) z);by_cases u:q∈U.map (·.1)
  ·rw[H 0 U rfl u];cases D' 0 with
   |true=>exact jh _ _ u
   |false=>exact h
  ·have I:∀ b:Bool,(bif b then ac U s else s) q=s q:=by intro b;cases b <;> simp[eD _ u]
   have J:∀ b:Bool,(bif b then ac U r else r) q=r q:=by intro b;cases b <;> simp[eD _ u]
   rw[I,J,h]
theorem nv {U:Upd}:∀ {us:List Upd} {D:Nat->Bool} {s:St},(∀ (j:Nat) (u:Upd),us[j]?=some u->D j=true->∀ q,q∈U.map (·.1)->q∉u.map (·.1))->de D us (ac U s)=ac U (de D us s)
 |[],_,_,_=>rfl
 |u::us,D,s,h=>by
  simp only[de];cases H:D 0 with
  |true =>
   simp only[cond_true];rw[xP (h 0 u rfl H)];exact nv (λj r y z=>h (j+1) r (by simpa using y) z)
  |false =>
   simp only[cond_false];exact nv (λj r y z=>h (j+1) r (by simpa using y) z)
theorem oC {U:Upd}:∀ {us:List Upd} {i:Nat} {D D':Nat->Bool} {s:St},us[i]?=some U->D i=false->(∀ j,D' j=(D j||BJ j i)) ->
  (∀ (j:Nat) (u:Upd),us[j]?=some u->i<j->D j=true->∀ q,q∈U.map (·.1)->q∉u.map (·.1))->de D' us s=ac U (de D us s)
 |[],i,_,_,_,h,_,_,_=>by simp at h
 |V::us,0,D,D',s,h,z,r,H=>by
  simp at h;subst h;simp only[de];have y:D' 0=true:=by rw[r 0];simp
  rw[y,z];simp only[cond_true,cond_false];have e:de (λj=>D' (j+1)) us (ac V s)=de (λj=>D (j+1)) us (ac V s):=mp (λj _=>by rw[r (j+1)];simp[BJ]);rw[e];exact nv (λj u I J=>H (j+1) u (by simpa using I) (by omega) J)
 |V::us,i+1,D,D',s,h,z,r,H=>by
  simp only[de];have y:D' 0=D 0:=by rw[r 0];simp[BJ]
  rw[y];exact oC (i:=i) (by simpa using h) z (λj=>by rw[r (j+1)];simp[BJ]) (λj u I J M=>H (j+1) u (by simpa using I) (by omega) M)
theorem qK:∀ {r:List Oper} {us:List Upd} {y:List cL} {s z:St},Run Γ T all s r us y z->∀ (i:Nat) (o:Oper),r[i]?=some o ->
  ∃ U t,us[i]?=some U/\y[i]?=some t/\jC Γ T all o (de (λj=>decide (j<i)) us s) U t
 |[],_,_,_,_,_,i,o,h=>by simp at h
 |H::r,[],_,_,_,h,_,_,_=>h.elim
 |H::r,_::_,[],_,_,h,_,_,_=>h.elim
 |H::r,U::us,t::y,s,z,h,0,o,u=>by
  simp at u;subst u;exact⟨U,t,rfl,rfl,by rw[nu (λj=>by simp)];exact h.1⟩
 |H::r,U::us,t::y,s,z,h,i+1,o,u=>by
  obtain⟨M,X,O,J,I⟩:=qK h.2 i o (by simpa using u);refine⟨M,X,by simpa using O,by simpa using J,?_⟩;simp only[de];have e:(λj=>decide (j+1<i+1))=λj=>decide (j<i):=by funext j;simp
  rw[e];simpa using I
theorem vd:∀ {r:List Oper} {us:List Upd} {y:List cL} {s u:St},Run Γ T all s r us y u->us.length=r.length/\y.length=r.length/\u=de (λ_=>true) us s
 |[],[],[],_,_,h=>⟨rfl,rfl,h⟩
 |[],_::_,_,_,_,h=>h.elim
 |[],[],_::_,_,_,h=>h.elim
 |_::_,[],_,_,_,h=>h.elim
 |_::_,_::_,[],_,_,h=>h.elim
 |o::r,U::us,t::y,s,u,h=>by
  obtain⟨z,H,I⟩:=vd h.2;exact⟨by simp[z],by simp[H],by simpa[de]using I⟩
theorem qL {q:Nat}:∀ {os:List Oper} {us:List Upd} {O:List cL} {z s':St} {D:Nat->Bool} {F:Nat->Bool} {s sF:St} {B:Prop},Run Γ T all z os us O s'->(∀ (j:Nat) (t:cL),O[j]?=some t->F j=decide (q∈t.wr)) ->
  bJ (s q)=bJ (sF q)->(B->bJ (sF q)=bJ (z q)) ->
  (∀ (j:Nat) (t:cL) (U:Upd),O[j]?=some t->us[j]?=some U->D j=true->q∉t.wr->q∈U.map (·.1)->B/\∀ (k:Nat) (t':cL),k<j->O[k]?=some t'->q∈t'.wr->D k=true) ->
  bJ (de D us s q)=bJ (de (λj=>D j&&F j) us sF q)
 |[],[],[],_,_,_,_,_,_,_,_,_,M,_,_=>M
 |[],_::_,_,_,_,_,_,_,_,_,h,_,_,_,_=>h.elim
 |[],[],_::_,_,_,_,_,_,_,_,h,_,_,_,_=>h.elim
 |_::_,[],_,_,_,_,_,_,_,_,h,_,_,_,_=>h.elim
 |_::_,_::_,[],_,_,_,_,_,_,_,h,_,_,_,_=>h.elim
 |o::os,U::us,t::O,z,s',D,F,s,sF,B,h,hF,M,Z,J=>by
  obtain⟨⟨⟨k1,k2,k3⟩,_⟩,H⟩:=h;have y:=hF 0 t rfl;simp only[de];refine qL (F:=λj=>F (j+1)) (B:=B/\(q∈t.wr->D 0=true)) H (λj t' ht=>hF (j+1) t' (by simpa using ht)) ?_ ?_ ?_
  ·by_cases r:q∈U.map (·.1)
   ·by_cases u:q∈t.wr
    ·rw[y,decide_eq_true u,CQ];cases D 0 with
     |true=>simp only[cond_true];rw[jh s sF r]
     |false=>exact M
    ·rw[y,decide_eq_false u,CJ];simp only[cond_false];cases I:D 0 with
     |true =>
      simp only[cond_true];rw[jh s z r,k3 q r u];exact (Z (J 0 t U rfl rfl I u r).1).symm
     |false=>exact M
   ·have e:∀ (b:Bool) (x:St),(bif b then ac U x else x) q=x q:=by intro b x;cases b <;> simp[eD _ r]
    rw[e,e];exact M
  ·rintro⟨hB,I⟩;by_cases r:q∈U.map (·.1)
   ·by_cases u:q∈t.wr
    ·rw[y,decide_eq_true u,CQ,I u];simp only[cond_true];rw[jh sF z r]
    ·rw[y,decide_eq_false u,CJ];simp only[cond_false];rw[k3 q r u];exact Z hB
   ·have e:∀ (b:Bool) (x:St),(bif b then ac U x else x) q=x q:=by intro b x;cases b <;> simp[eD _ r]
    rw[e,eD _ r];exact Z hB
  ·intro j t' U' ht hU I u r;obtain⟨g1,g2⟩:=J (j+1) t' U' (by simpa using ht) (by simpa using hU) I u r;exact⟨⟨g1,λa0=>g2 0 t (by omega) rfl a0⟩,λk t2 hk Y X=>g2 (k+1) t2 (by omega) (by simpa using Y) X⟩
theorem rG {f:Nat->Nat}{i:Nat}:∀ (l:List Edge) (s:Nat),(l.foldl (λs e=>bif Region.binds .any e then s ||| 2 ^ e.on ||| f e.on else s) s).testBit i=true ->
  s.testBit i=true\/∃ e∈l,Region.binds .any e=true/\(i=e.on\/(f e.on).testBit i=true)
 |[],s,h=>.inl h
 |e::l,s,h=>by
  simp only[Ct]at h;rcases rG l _ h with h|⟨y,u,z⟩
  ·cases r:Region.binds .any e with
   |false=>rw[r]at h;exact .inl h
   |true =>
    rw[r]at h;simp only[cond_true,Nat.testBit_or,CF]at h;rcases h with (h|h)|h
    ·exact .inl h
    ·refine .inr ⟨e,BG ..,r,.inl ?_⟩;rw[Nat.testBit_two_pow]at h;exact (of_decide_eq_true h).symm
    ·exact .inr ⟨e,BG ..,r,.inr h⟩
  ·exact .inr ⟨y,BF _ u,z⟩
theorem tJ:∀ (z:List Oper) (r:List Nat),(∀ j,j<r.length->(jD z r).getD j 0=r.getD j 0) /\
  ∀ (k:Nat) (o:Oper),z[k]?=some o->∃ u:List Nat,u.length=r.length+k/\(∀ j,j<u.length->u.getD j 0=(jD z r).getD j 0) /\
   (jD z r).getD (r.length+k) 0=o.after.toList.foldl (λs e=>bif Region.binds .any e then s ||| 2 ^ e.on ||| u.getD e.on 0 else s) 0
 |[],r=>⟨λ_ _=>rfl,λk o h=>by simp at h⟩
 |o::z,r=>by
  obtain⟨I,J⟩:=tJ z (r++[o.after.toList.foldl (λs e=>bif Region.binds .any e then s ||| 2 ^ e.on ||| r.getD e.on 0 else s) 0]);have y:∀ j,j<r.length->(jD (o::z) r).getD j 0=r.getD j 0:=by
   intro j H;simp only[jD];rw[I j (by simp;omega)];simp[BP,Bp H]
  refine⟨y,λk X h=>?_⟩;cases k with
  |zero =>
   simp at h;subst h;refine⟨r,rfl,λj H=>(y j H).symm,?_⟩;simp only[jD];rw[Nat.add_zero,I r.length (by simp)];simp[BP]
  |succ k =>
   obtain⟨u,M,Y,O⟩:=J k X (by simpa using h);refine⟨u,by simp at M;omega,λj H=>Y j H,?_⟩;simp only[jD];have e:r.length+(k+1)=(r++[o.after.toList.foldl (λs e=>bif Region.binds .any e then s ||| 2 ^ e.on ||| r.getD e.on 0 else s) 0]).length+k:=by simp;omega
   rw[e];exact O
theorem jp {ops:Array Oper}{D:Nat->Prop}(z:∀ (j:Nat) (o:Oper),ops[j]?=some o->D j->∀ e∈o.after.toList,Region.binds .any e=true->D e.on) :
  ∀ (n j:Nat),j<n->∀ (o:Oper),ops[j]?=some o->(∀ e∈o.after.toList,Region.binds .any e=true->D e.on)->∀ i,((jD ops.toList []).getD j 0).testBit i=true->D i
 |0,_,h,_,_,_,_,_=>by omega
 |n+1,j,hj,o,Y,M,i,O=>by
  obtain⟨r,h1,Z,I⟩:=(tJ ops.toList []).2 j o (by simpa using Y);simp only[List.length_nil,B8]at h1 I;rw[I]at O;rcases rG (f:=λk=>r.getD k 0) _ _ O with h|⟨e,X,J,y⟩
  ·simp at h
  ·rcases y with rfl|y
   ·exact M e X J
   ·have H:e.on<r.length:=by
     apply Bq;intro hn;have:r.getD e.on 0=0:=by
      rw[BP,CV (by omega)];rfl
     rw[this]at y;simp at y
    rw[Z _ H]at y;have hD:=M e X J;have u:e.on<ops.size:=by
     have:=(CK.1 Y).1;omega
    exact jp z n e.on (by omega) ops[e.on] (BM u) (z e.on _ (BM u) hD) i y
theorem fR {a b:List Nat}(h:lJ a b=false){q:Nat}(u:q∈a):q∉b:=by
 intro r;unfold lJ at h;rw[CO]at h;have:=h q u;simp only[CE,not_exists,not_and]at this;exact this q r (by simp)
theorem lg {r:List Nat}{z:List cL}(h:po r z=true){i j:Nat}(u:i<j){x y:cL}(O:z[i]?=some x)(J:z[j]?=some y):(r.getD j 0).testBit i=true\/x.apart y=true:=by
 unfold po at h;rw[BX]at h;have M:=(BK.1 J).1;have H:=h j (by simpa using M);rw[BX]at H;have I:=H i (by simpa using u);simp only[O,J,CF]at I;exact I
theorem qe {p p':Nat->Bool}{i:Nat}(I:p i=true)(r:p' i=false)(h:∀ j,j≠i->p' j=p j):∀ (l:List Nat),l.Nodup->i∈l->l.countP p'+1=l.countP p
 |[],_,H=>by simp at H
 |x::l,u,H=>by
  rw[Bw]at u;by_cases z:x=i
  ·subst z;have e:l.countP p'=l.countP p:=by
    apply List.countP_congr;intro y J;rw[h y (λe=>u.1 (e ▸ J))]
   simp[I,r,e]
  ·have M:=qe I r h l u.2 ((BO.1 H).resolve_left (λe=>z e.symm));simp only[Cp,h x z];omega
theorem Be (hV:ax V)(hT:TOk P T)(hΓ:∀ c∈Γ,bO P c){ops:Array Oper}(e7:∀ (i:Nat) (o:Oper),ops[i]?=some o->bM V o)
  (b6:∀ (i:Nat) (o:Oper),ops[i]?=some o->∀ j cb,o.guard=some (j,cb)->∀ s,(ops[j]?).bind (·.dst)=some s->s<V.nt) {Q:Exit->Act->World->Prop}
  {us:List Upd} {ts:List cL} {s0 s1:St} (a2:Run Γ T ops s0 ops.toList us ts s1) (a4:nD ops=true) (c0:po (jD ops.toList []) ts=true) (hQ:∀ a w,Rel P V s1 a w->Q .normal a w) :
  ∀ (a1:Nat) (r:Array Bool) (a:Act) (w:World),r.size=ops.size->(Cv ops.size).countP (λi=>!r.getD i true)=a1 ->
   (∀ (j:Nat) (o:Oper),ops[j]?=some o->r.getD j false=true->∀ e∈o.after.toList,Region.binds .any e=true->r.getD e.on false=true) ->
   Rel P V (de (λj=>r.getD j false) us s0) a w->wpAny P .any ops Q a1 r a w:=by
 obtain⟨eb,ef,d2⟩:=vd a2;have ed:ops.toList.length=ops.size:=Cc;have b9:∀ (r:Array Bool),r.size=ops.size->Region.ready .any ops r=[]->∀ i,i<ops.size->r.getD i false=true:=by
  intro r a3 hr i;induction i using Cu with
  |ind i ih =>
   intro hi;cases hl:r.getD i false with
   |true=>rfl
   |false =>
    exfalso;have e3:r.getD i true=false:=by
     rw[BN,BM (by omega)]at hl ⊢;exact hl
    have ho:ops[i]?=some ops[i]:=BM hi;have bn:i∈Region.ready .any ops r:=by
     unfold Region.ready;rw[B9];refine⟨by simpa using hi,?_⟩;rw[e3,ho];simp only[Cw,Cg,Bo,Cq];rw[CB];intro e he;cases e6:Region.binds .any e with
     |false=>rfl
     |true =>
      simp only[Bool.not_true,Bool.false_or];have bb:e.on<i:=by
       unfold nD at a4;rw[BX]at a4;have:=a4 i (by simpa using hi);simp only[ho]at this;rw[BX]at this;have:=this e (by simpa using he);simpa[e6]using this
      exact ih e.on bb (by omega)
    rw[hr]at bn;simp at bn
 have bx:∀ (r:Array Bool) (a:Act) (w:World),r.size=ops.size->Rel P V (de (λj=>r.getD j false) us s0) a w->Region.ready .any ops r=[]->Q .normal a w:=by
  intro r a w a3 hr ba;refine hQ a w ?_;rw[d2];have:de (λ_=>true) us s0=de (λj=>r.getD j false) us s0:=mp (λj J=>(b9 r a3 ba j (by omega)).symm);rw[this];exact hr
 intro a1;induction a1 with
 |zero =>
  intro r a w a3 O b5 hr;have ba:Region.ready .any ops r=[]:=by
   unfold Region.ready;rw[List.filter_eq_nil_iff];intro i hi hc;rw[Cd]at O;have:=O i hi;simp only[BC]at hc;exact this hc.1
  exact⟨ba,bx r a w a3 hr ba⟩
 |succ a1 ih =>
  intro r a w a3 O b5 hr;refine⟨bx r a w a3 hr,λi hi=>?_⟩;unfold Region.ready at hi;rw[B9]at hi;obtain⟨b1,c1⟩:=hi;have b1:i<ops.size:=by simpa using b1
  have ho:ops[i]?=some ops[i]:=BM b1;rw[ho]at c1;simp only[BC,Bz,Bo,Cq]at c1;obtain⟨ad,a6⟩:=c1;rw[CB]at a6;have X:r.getD i false=false:=by
   rw[BN,BM (by omega)]at ad ⊢;exact ad
  have d3:∀ e∈(ops[i]).after.toList,Region.binds .any e=true->r.getD e.on false=true:=by
   intro e he hb;have:=a6 e (by simpa using he);simpa[hb]using this
  obtain⟨U,t,hU,ht,b0⟩:=qK a2 i ops[i] (by simp);have b3:∀ (j:Nat) (o:Oper),ops[j]?=some o->(λk=>r.getD k false=true) j->∀ e∈o.after.toList,Region.binds .any e=true->(λk=>r.getD k false=true) e.on:=b5;obtain⟨e0,_,_⟩:=b0.1;have Y:∀ (j:Nat) (M:Upd),us[j]?=some M->∃ H,ts[j]?=some H/\(∀ q∈M.map (·.1),q∈H.wr\/q∈H.cw)/\∀ q∈H.wr,q∈M.map (·.1):=by
   intro j M J;have a5:j<ops.size:=by
    have:=(BK.1 J).1;omega
   obtain⟨U2,t2,h1,Z,h3⟩:=qK a2 j ops[j] (by simp[a5]);rw[J]at h1;cases h1;exact⟨t2,Z,h3.1.1,h3.1.2.1⟩
  have c6:∀ (j:Nat) (M:Upd),us[j]?=some M->j≠i->r.getD j false≠decide (j<i)->∃ H,ts[j]?=some H/\(∀ q∈M.map (·.1),q∈H.wr\/q∈H.cw)/\(H.apart t=true\/t.apart H=true):=by
   intro j M J b2 u;obtain⟨H,h1,Z,_⟩:=Y j M J;refine⟨H,h1,Z,?_⟩;rcases Nat.lt_or_gt_of_ne b2 with bb|e4
   ·have hl:r.getD j false=false:=by
     cases hl:r.getD j false with
     |false=>rfl
     |true=>rw[hl]at u;simp[bb]at u
    rcases lg c0 bb h1 ht with h3|h3
    ·have:=jp b3 (i+1) i (B7 _) ops[i] ho d3 j h3;rw[hl]at this;cases this
    ·exact .inl h3
   ·have hl:r.getD j false=true:=by
     cases hl:r.getD j false with
     |true=>rfl
     |false=>rw[hl]at u;simp at u;omega
    have a5:j<ops.size:=by
     have:=(BK.1 J).1;omega
    have b4:ops[j]?=some ops[j]:=BM a5;rcases lg c0 e4 ht h1 with h3|h3
    ·have:=jp b3 (j+1) j (B7 _) ops[j] b4 (b5 j _ b4 hl) i h3;rw[X]at this;cases this
    ·exact .inr h3
  have a0:∀ (x y:cL),x.apart y=true->(∀ q,q∈x.wr\/q∈x.cw->(q∉y.wr/\q∉y.cw)/\q∉y.rd)/\(∀ q,q∈y.wr\/q∈y.cw->(q∉x.wr/\q∉x.cw)/\q∉x.rd)/\(∀ q∈x.wr,q∉y.hd)/\∀ q∈y.wr,q∉x.hd:=by
   intro x y h;unfold cL.apart at h;simp only[BC,Bz]at h;obtain⟨⟨⟨⟨h1,Z⟩,h3⟩,h4⟩,h5⟩:=h;refine⟨λq I=>?_,λq I=>?_,λq I=>fR h4 I,λq I hx=>fR h5 hx I⟩
   ·have I:=BB.2 I;have:=fR h1 I;simp only[BB,not_or]at this;exact⟨this,fR Z I⟩
   ·have I:=BB.2 I;have:q∉x.wr++x.cw:=λhx=>fR h1 hx I
    simp only[BB,not_or]at this;exact⟨this,λhx=>fR h3 hx I⟩
  have bl:∀ (j:Nat) (M:Upd),us[j]?=some M->j≠i->r.getD j false≠decide (j<i)->∀ q∈M.map (·.1),(q∉t.wr/\q∉t.cw)/\q∉t.rd:=by
   intro j M J b2 u q I;obtain⟨H,_,h1,Z⟩:=c6 j M J b2 u;rcases Z with Z|Z
   ·exact (a0 _ _ Z).1 q (h1 q I)
   ·exact (a0 _ _ Z).2.1 q (h1 q I)
  have c2:∀ (j:Nat) (H:cL),ts[j]?=some H->j≠i->r.getD j false≠decide (j<i)->∀ q∈H.wr,q∉t.hd:=by
   intro j H J b2 u q I;have a5:j<us.length:=by
    have:=(BK.1 J).1;omega
   obtain⟨t2,h0,_,Z⟩:=c6 j us[j] (BR a5) b2 u;rw[J]at h0;cases h0;rcases Z with Z|Z
   ·exact (a0 _ _ Z).2.2.1 q I
   ·exact (a0 _ _ Z).2.2.2 q I
  have cu:mo Γ T ops ops[i] (de (λj=>r.getD j false) us s0) U:=by
   refine b0.frame (λq I=>?_) (λq I=>?_)
   ·refine mq rfl λj M J cy=>?_
    by_cases z:j=i
    ·subst z;rw[X];simp
    ·apply Bq;intro u;have:=bl j M J z u q cy;rcases I with I|I
     ·exact this.2 I
     ·exact this.1.1 I
   ·have cp:∀ (j:Nat) (H:cL),ts[j]?=some H->(λj=>match ts[j]? with|some H=>decide (q∈H.wr)|none=>false) j=decide (q∈H.wr):=λj H h=>by simp only[h]
    have e1:=qL (q:=q) (D:=λj=>r.getD j false) (F:=λj=>match ts[j]? with|some H=>decide (q∈H.wr)|none=>false) (s:=s0) (sF:=s0) (B:=True) a2 cp rfl (λ_=>rfl) (λj H M J hU hD hw d1=>by
     refine⟨trivial,λk t2 hk c5 cx=>?_⟩;obtain⟨t3,h3,h4,_⟩:=Y j M hU;rw[J]at h3;cases h3;have dc:=(h4 q d1).resolve_left hw;have a5:j<ops.size:=by
      have:=(BK.1 hU).1;omega
     have b4:ops[j]?=some ops[j]:=BM a5;rcases lg c0 hk c5 J with h5|h5
     ·exact jp b3 (j+1) j (B7 _) ops[j] b4 (b5 j _ b4 hD) k h5
     ·exact absurd dc ((a0 _ _ h5).1 q (.inl cx)).1.2)
    have e2:=qL (q:=q) (D:=λj=>decide (j<i)) (F:=λj=>match ts[j]? with|some H=>decide (q∈H.wr)|none=>false) (s:=s0) (sF:=s0) (B:=True) a2 cp rfl (λ_=>rfl) (λj H M J hU hD hw d1=>by
     refine⟨trivial,λk t2 hk c5 cx=>?_⟩;have:=of_decide_eq_true hD;exact decide_eq_true (by omega))
    rw[e1,e2];congr 1;refine mq rfl λj M J cy=>?_
    obtain⟨H,h1,Z,_⟩:=Y j M J;simp only[h1];by_cases hw:q∈H.wr
    ·rw[decide_eq_true hw,CQ,CQ];by_cases z:j=i
     ·subst z;rw[X];simp
     ·apply Bq;intro u;exact c2 j H h1 z u q hw I
    ·rw[decide_eq_false hw,CJ,CJ]
  refine wu hV hT hΓ ho (e7 i _ ho) (b6 i _ ho) cu hr λa' w' e5=>?_
  have a9:∀ (b:Bool) (j:Nat),(r.setIfInBounds i true).getD j b=if j=i then true else r.getD j b:=by
   intro b j;simp only[BN,Array.getElem?_setIfInBounds];by_cases z:j=i
   ·subst z;simp[a3,b1]
   ·rw[if_neg (λe=>z e.symm),if_neg z]
  refine ih _ a' w' (by simpa using a3) ?_ ?_ ?_
  ·have:=qe (p:=λj=>!r.getD j true) (p':=λj=>!(r.setIfInBounds i true).getD j true) (i:=i) (by simp[ad]) (by simp[a9]) (λj J=>by simp[a9,J]) (Cv ops.size) List.nodup_range (by simpa using b1);omega
  ·intro j o' J c3 e he hb;rw[a9]at c3 ⊢;by_cases cc:e.on=i
   ·rw[if_pos cc]
   ·rw[if_neg cc];by_cases z:j=i
    ·subst z;rw[ho]at J;cases J;exact d3 e he hb
    ·rw[if_neg z]at c3;exact b5 j o' J c3 e he hb
  ·have c4:=oC (U:=U) (us:=us) (i:=i) (D:=λj=>r.getD j false) (D':=λj=>(r.setIfInBounds i true).getD j false) (s:=s0) hU X (λj=>by
     simp only[a9];by_cases z:j=i
     ·subst z;simp
     ·have:BJ j i=false:=by
       cases hb:BJ j i with
       |false=>rfl
       |true=>exact absurd (BH hb) z
      simp[z,this])
    (λj M J ec hD q I dd=>by
     have:=bl j M J (by omega) (by rw[hD];simp;omega) q dd;exact (e0 q I).elim this.1.1 this.1.2)
   rw[c4];exact e5
theorem Bf (hV:ax V)(hT:TOk P T)(hΓ:∀ c∈Γ,bO P c)(O:P.follows .mixedOrders=true){id:Nat}{ops:Array Oper}{z:Bool}(X:∀ (i:Nat) (o:Oper),ops[i]?=some o->bM V o)
  (u:∀ (i:Nat) (o:Oper),ops[i]?=some o->∀ j M,o.guard=some (j,M)->∀ s,(ops[j]?).bind (·.dst)=some s->s<V.nt) {Q:Exit->Act->World->Prop} {κ:St->Option R} {r:R}
  (h:regK Γ T ops z st κ=some r) (hκ:∀ H,κ H=some r->∀ a w,Rel P V H a w->Q .normal a w) {a:Act} {w:World} (Y:Rel P V st a w):(Code.region id ops z).wp P Q a w:=by
 unfold regK at h;cases z with
 |true =>
  simp only[cond_true]at h;obtain⟨us,Z,H,y,I⟩:=pe _ _ _ _ _ h;simp only[Bu]at I;cases J:nD ops&&po (jD ops.toList []) Z with
  |false=>simp[J]at I
  |true =>
   simp only[J,cond_true]at I;simp only[BC]at J;refine wp_region_any O ?_;have hD:∀ j,(Bx ops.size false).getD j false=false:=by
    intro j;simp only[BN,CR];split <;> rfl
   refine Be hV hT hΓ X u y J.1 J.2 (hκ H I) ops.size (Bx ops.size false) a _ (by simp) ?_ ?_ ?_
   ·rw[List.countP_eq_length.2]
    ·simp
    ·intro i hi;have hi:i<ops.size:=by simpa using hi
     simp[BN,CR,hi]
   ·intro j o' _ hl;rw[hD]at hl;cases hl
   ·rw[nu (λj=>hD j)];obtain⟨W,Y⟩:=Y;exact⟨W,Y.world hV (w':={ w with drawn:=w.drawn+1 }) (CY _) rfl rfl rfl (λ_ _=>rfl)⟩
 |false =>
  simp only[cond_false]at h;obtain⟨us,Z,H,y,I⟩:=pe _ _ _ _ _ h;refine wp_region ?_;have:=va hV hT hΓ X u ops.toList 0 st us Z H (by simp) y (hκ H I) a w Y;rw[Cc,<- List.range_eq_range']at this;exact this
end
section
variable {P:Program} {V:Env} {Γ:List Ctr} {T:TypeId->TI} {st st':St} {o:Oper} {R:Type} {all:Array Oper}
theorem kL (live:List Nat):∀ (cs:List Coe) (ls:List Leaf),(cX st live cs ls).length=ls.length
 |[],[]=>rfl
 |_::_,[]=>rfl
 |[],_::ls=>by simp[cX,kL live [] ls]
 |_::cs,_::ls=>by simp[cX,kL live cs ls]
theorem pf (live:List Nat):∀ (cs:List Coe) (ls:List Leaf) (j:Nat) (l:Leaf),(cX st live cs ls)[j]?=some l->∃ r,ls[j]?=some r/\(l=.dead\/∃ c,l=br st live c r)
 |[],[],j,l,h=>by simp[cX]at h
 |_::_,[],j,l,h=>by simp[cX]at h
 |[],r::ls,0,l,h=>by simp[cX]at h;exact⟨r,rfl,.inl h.symm⟩
 |c::cs,r::ls,0,l,h=>by simp[cX]at h;exact⟨r,rfl,.inr ⟨c,h.symm⟩⟩
 |[],r::ls,j+1,l,h=>by
  simp only[cX,CS]at h;obtain⟨z,u,y⟩:=pf live [] ls j l h;exact⟨z,by simpa using u,y⟩
 |c::cs,r::ls,j+1,l,h=>by
  simp only[cX,CS]at h;obtain⟨z,u,y⟩:=pf live cs ls j l h;exact⟨z,by simpa using u,y⟩
theorem An (live:List (Nat×List Coe))(q:Nat):lK live st q=bS.none/\q∉live.map (·.1)\/∃ y,lK live st q=⟨0,(st q).sh,cX st (live.map (·.1)) y (st q).ls⟩/\q∈live.map (·.1):=by
 have J:∀ (u:List Nat) (l:List (Nat×List Coe)),(av (l.map λr=>(r.1,⟨0,(st r.1).sh,cX st u r.2 (st r.1).ls⟩)) q=bS.none/\q∉l.map (·.1)) \/
   ∃ y,av (l.map λr=>(r.1,⟨0,(st r.1).sh,cX st u r.2 (st r.1).ls⟩)) q=⟨0,(st q).sh,cX st u y (st q).ls⟩/\q∈l.map (·.1):=by
  intro u l;induction l with
  |nil=>exact .inl ⟨rfl,by simp⟩
  |cons x l O =>
   obtain⟨r,y⟩:=x;by_cases h:q=r
   ·subst h;exact .inr ⟨y,by simp[av,ac],by simp⟩
   ·have z:BJ q r=false:=by
     cases z:BJ q r with
     |false=>rfl
     |true=>exact absurd (BH z) h
    rcases O with ⟨H,I⟩|⟨M,H,I⟩
    ·refine .inl ⟨?_,by simpa[h]using I⟩;rw[<- H];simp[av,ac,z]
    ·refine .inr ⟨M,?_,by simp only[BY,BO];exact .inr I⟩;rw[<- H];simp[av,ac,z]
 exact J (live.map (·.1)) live
theorem xQ {keys:List Nat}{c:Coe}{r:Leaf}(h:ao (br st keys c r)):ao r\/r=.nil:=by
 cases r with
 |own p y E e u=>exact .inl trivial
 |nil=>exact .inr rfl
 |_ =>
  exfalso;revert h;cases c <;> simp only[br] <;> first
   |exact id
   |(cases (!_||_:Bool) <;> first | exact id | (split <;> exact id))
   |(cases (_&&_:Bool) <;> exact id)
   |(cases (List.any _ _:Bool) <;> exact id)
   |(cases (List.all _ _:Bool) <;> exact id)
theorem iJ.nw {W W':Wit}{w:World}{c:Bool×Bool×(a:Ty)×a.den}{u:Value}(r:∀ k,W.nw k->W'.nw k)(h:iJ V W w c u):iJ V W' w c u:=by
 have z:∀ (p:Bool) k,gd V W p k->gd V W' p k:=λp k hk=>hk.imp (r k) id
 unfold iJ at h ⊢;split at h
 ·rename_i H;rw[if_pos H];obtain⟨b,ob,g,I,J,M,O,y,Y,X,Z⟩:=h;exact⟨b,ob,g,I,J,M,O.imp (r b) id,y,Y.imp (r g) id,Rd.mono (z _) X,Z⟩
 ·rename_i H;rw[if_neg H];obtain⟨g,I,J,M,Y,X,Z⟩:=h;exact⟨g,I,J,M,Y.imp (r g) id,Rd.mono (z _) X,Z⟩
theorem wv {W W':Wit}{w:World}{keys:List Nat}{bs bs':List Nat}{c:Coe}{M:Leaf}{v:Value}(h:aI P V W st w bs M v)
  (z:∀ k,W.nw k->W'.nw k) (hβ:W'.β=W.β) (a6:∀ q,keys.any (BJ q)=true->W'.cs q=W.cs q) (H:∀ b,keys.any (BJ b)=true->(st b).sh=.agg->(st' b).sh=.agg)
  (a2:ao M->bs'=bs) (a3:M=.nil->bs'=[]) (a1:ao M->¬ ao (br st keys c M)->(∃ p E e,c=.ro p E e)->∀ k∈bs,W'.nw k) :
  aI P V W' st' w bs' (br st keys c M) v:=by
 have I:∀ (p q:Bool),(!q||p)=true->∀ k,gd V W q k->gd V W' p k:=by
  intro p q a9 k J;rcases J with J|⟨Z,J⟩
  ·exact .inl (z k J)
  ·refine .inr ⟨?_,J⟩;subst Z;simpa using a9
 cases c with
 |kill=>simp only[br];trivial
 |keep =>
  cases M with
  |int k n=>exact h
  |bool b=>exact h
  |str s=>exact h
  |nil=>exact h
  |hdr n=>exact h
  |fn As B φ=>exact h
  |clr f O =>
   obtain⟨us,Z,h2,h3⟩:=h;exact⟨us,Z,h2,λi c u g1 g2=>(h3 i c u g1 g2).nw z⟩
  |al r j n =>
   simp only[br];cases y:keys.any (BJ r)&&BJ (st r).ver n with
   |false=>trivial
   |true =>
    simp only[BC]at y;exact⟨Cr _,λ_=>by rw[a6 r y.1];exact h.2 (BH y.2)⟩
  |bp b off =>
   simp only[br];cases y:keys.any (BJ b) with
   |false=>trivial
   |true =>
    obtain⟨Z,h2,h3⟩:=h;exact⟨Z,H b y h2,by rw[hβ];exact h3⟩
  |clo f O =>
   simp only[br];cases y:O.all (λb=>keys.any (BJ b)) with
   |false=>trivial
   |true =>
    obtain⟨Z,h2⟩:=h;rw[BX]at y;exact⟨by rw[hβ];exact Z,λb a0=>⟨(h2 b a0).1,H b (y b a0) (h2 b a0).2⟩⟩
  |_=>simp only[br];trivial
 |own p E e =>
  cases M with
  |nil =>
   have X:v=.slice none 0 0:=h;subst X;rw[a3 rfl];exact OwH.nil w _ E e
  |own q hh E' e' xs =>
   cases hh with
   |some x=>simp only[br];trivial
   |none =>
    simp only[br];cases y:(!q||p) with
    |false=>trivial
    |true =>
     rw[a2 trivial];exact OwH.carry h (I p q y) (λ_ _=>rfl) (λ_ _=>rfl)
  |_=>simp only[br];trivial
 |ro p E e =>
  cases M with
  |nil =>
   have X:v=.slice none 0 0:=h;subst X;exact Rd.nil w _ false E e
  |ro q E' e' xs =>
   simp only[br];cases y:(!q||p) with
   |false=>trivial
   |true =>
    simp only[cond_true];split
    ·rename_i ys hc;exact Rd.castSh (m:=false) (m':=false) (E:=E) hc (Rd.mono (I p q y) h)
    ·trivial
  |own q hh E' e' xs =>
   cases hh with
   |some x=>simp only[br];trivial
   |none =>
    have a4:=a1 trivial (by
     simp only[br];cases (!q||p) with
     |false=>exact id
     |true=>simp only[cond_true];split <;> exact id) ⟨p,E,e,rfl⟩
    simp only[br];cases y:(!q||p) with
    |false=>trivial
    |true =>
     simp only[cond_true];split
     ·rename_i ys hc;refine Rd.castSh (m:=false) (m':=false) (E:=E) (E':=E') hc (Rd.mono (λk J=>?_) (OwH.rd (m:=false) (E':=E') h));rcases J with J|J
      ·exact I p q y k J
      ·exact .inl (a4 k J)
     ·trivial
  |_=>simp only[br];trivial
 |rp p =>
  cases M with
  |rpp q a x =>
   simp only[br];cases y:(!q||p) with
   |false=>trivial
   |true =>
    obtain⟨b,ob,g,o',c,X,a5,Y,hg,hr,hc⟩:=h;exact⟨b,ob,g,o',c,X,a5.imp (z b) id,Y,hg.imp (z g) id,Rd.mono (I p q y) hr,hc⟩
  |rp q a x off =>
   simp only[br];cases y:(!q||p) with
   |false=>trivial
   |true =>
    obtain⟨g,o',c,X,hg,hr,hc⟩:=h;exact⟨g,o',c,X,hg.imp (z g) id,Rd.mono (I p q y) hr,hc⟩
  |_=>simp only[br];trivial
open Classical in
theorem ve (_hV:ax V){a:Act}{w:World}(h:Rel P V st a w)(live:List (Nat×List Coe))(a5:∀ x∈V.fixb,x.1∈live.map (·.1)):Rel P V (lK live st) a w:=by
 obtain⟨W,h⟩:=h;have J:=An (st:=st) live;have X:∀ b,Go.Proofs.YtaelpfghkndliaaGreatEv.live (lK live st) b->Go.Proofs.YtaelpfghkndliaaGreatEv.live st b:=by
  rintro b ⟨I,y⟩;rcases J b with ⟨e,_⟩|⟨cs,e,_⟩
  ·rw[e]at y;cases y
  ·rw[e]at y;exact⟨I,y⟩
 have a1:∀ (q j:Nat) (l:Leaf),(lK live st q).ls[j]?=some l->q∈live.map (·.1)/\∃ r,(st q).ls[j]?=some r/\(l=.dead\/∃ c,l=br st (live.map (·.1)) c r):=by
  intro q j l Y;rcases J q with ⟨e,_⟩|⟨cs,e,H⟩
  ·rw[e]at Y;simp[bS.none]at Y
  ·rw[e]at Y;exact⟨H,pf _ _ _ _ _ Y⟩
 have b5:∀ (q j:Nat) (l:Leaf),(lK live st q).ls[j]?=some l->ao l->∃ r,(st q).ls[j]?=some r/\(ao r\/r=.nil):=by
  intro q j l Y ho;obtain⟨_,r,I,y⟩:=a1 q j l Y;rcases y with rfl|⟨c,rfl⟩
  ·exact ho.elim
  ·exact⟨r,I,xQ ho⟩
 have a0:∀ b,(live.map (·.1)).any (BJ b)=true->b∈live.map (·.1):=λb O=>by
  rw[CE]at O;obtain⟨x,hx,he⟩:=O;rw[BH he];exact hx
 let z:Nat->Nat->List Nat:=λq j=>if (∃ r,(st q).ls[j]?=some r/\ao r) then W.bs q j else []
 let a2:Nat->Prop:=λk=>W.nw k\/∃ q j r l,(st q).ls[j]?=some r/\ao r/\(lK live st q).ls[j]?=some l/\¬ ao l/\k∈W.bs q j
 have Z:∀ (q j k:Nat),k∈z q j->(∃ r,(st q).ls[j]?=some r/\ao r)/\k∈W.bs q j:=by
  intro q j k M;by_cases hc:∃ r,(st q).ls[j]?=some r/\ao r
  ·simp only[z,if_pos hc]at M;exact⟨hc,M⟩
  ·simp only[z,if_neg hc]at M;simp at M
 refine⟨{ β:=W.β,cs:=λq=>if q∈live.map (·.1) then W.cs q else [],bs:=z,nw:=a2 },?_⟩
 exact {
  nt:=h.nt,df:=h.df
  slots:=λt ht=>by
   rcases J t with ⟨e,H⟩|⟨cs,e,H⟩
   ·rw[e];simp[H,bS.none,ea]
   ·rw[e];simp only[H,if_true];exact h.slots t ht
  boxes:=λb O=>by
   rcases J b with ⟨e,H⟩|⟨cs,e,H⟩
   ·rw[e];exact .inl ⟨rfl,rfl⟩
   ·rw[e];rcases h.boxes b O with ⟨I,y⟩|⟨I,E,y⟩
    ·exact .inl ⟨I,by rw[y];exact List.eq_nil_of_length_eq_zero (by rw[kL];rfl)⟩
    ·exact .inr ⟨I,E,by simp only[H,if_true];exact y⟩
  len:=λq=>by
   rcases J q with ⟨e,H⟩|⟨cs,e,H⟩
   ·rw[e];simp[H,bS.none]
   ·rw[e];simp only[H,if_true,kL];exact h.len q
  one:=λq u hu=>by
   by_cases H:q∈live.map (·.1)
   ·simp only[H,if_true]at hu;exact h.one q u hu
   ·simp only[H,if_false]at hu;simp at hu
  leaf:=λq j l v Y hv=>by
   obtain⟨H,r,I,y⟩:=a1 q j l Y;simp only[H,if_true]at hv;have b4:=h.leaf q j r v I hv;rcases y with rfl|⟨c,rfl⟩
   ·trivial
   ·refine wv (st:=st) (W:=W) (W':={ β:=W.β,cs:=λq=>if q∈live.map (·.1) then W.cs q else [],bs:=z,nw:=a2 }) (keys:=live.map (·.1)) b4 (λk M=>Or.inl M) rfl (λq hq=>if_pos (a0 q hq)) ?_ ?_ ?_ ?_
    ·intro b O b2;have b3:=a0 b O;rcases J b with ⟨_,b0⟩|⟨cs,e,_⟩
     ·exact absurd b3 b0
     ·rw[e];exact b2
    ·intro ho;show z q j=_;simp only[z,if_pos (⟨r,I,ho⟩:∃ r,(st q).ls[j]?=some r/\ao r)]
    ·intro e;show z q j=_;have hc:¬ ∃ r,(st q).ls[j]?=some r/\ao r:=by
      rintro⟨l1,h3,h4⟩;rw[I,e]at h3;cases h3;exact h4.elim
     simp only[z,if_neg hc]
    ·intro ho hn _ k M;exact .inr ⟨q,j,r,_,I,ho,Y,hn,M⟩
  ownb:=λq j l Y ho k M=>by
   obtain⟨⟨r,I,y⟩,h3⟩:=Z q j k M;obtain⟨q1,q2,q3⟩:=h.ownb q j r I y k h3;refine⟨?_,q2,λb O=>q3 b (X b O)⟩;rintro (hn|⟨q',j',l1,l2,h4,h5,h6,h7,h8⟩)
   ·exact q1 hn
   ·obtain⟨rfl,rfl⟩:=h.sep q j r q' j' l1 I y h4 h5 k h3 h8;rw[Y]at h6;cases h6;exact h7 ho
  sep:=λq j l q' j' l' _ _ _ _ k M a4=>by
   obtain⟨⟨r,I,y⟩,h3⟩:=Z q j k M;obtain⟨⟨a3,a9,ad⟩,a6⟩:=Z q' j' k a4;exact h.sep q j r q' j' a3 I y a9 ad k h3 a6
  box:=λb O=>by
   obtain⟨q1,q2⟩:=h.box b (X b O);refine⟨?_,q2⟩;rintro (hn|⟨q',j',l1,l2,h4,h5,h6,h7,h8⟩)
   ·exact q1 hn
   ·exact (h.ownb q' j' l1 h4 h5 _ h8).2.2 b (X b O) rfl
  inj:=λb b' O b1=>h.inj b b' (X b O) (X b' b1)
  nwlt:=λk M=>by
   rcases M with hn|⟨q',j',l1,l2,h4,h5,h6,h7,h8⟩
   ·exact h.nwlt k hn
   ·exact⟨h.own_lt h4 h5 k h8,(h.ownb q' j' l1 h4 h5 k h8).2.1⟩
  os:=h.os,tape:=h.tape,output:=h.output,size:=h.size,keep:=h.keep
  fixb:=λx hx=>by
   obtain⟨⟨I,y⟩,h3⟩:=h.fixb x hx;refine⟨⟨I,?_⟩,h3⟩;rcases J x.1 with ⟨_,H⟩|⟨cs,e,_⟩
   ·exact absurd (a5 x hx) H
   ·rw[e];exact y
  fixt:=h.fixt }
def exOf:Ex->Exit
 |.normal=>.normal
 |.exit id=>.exit id
 |.ret=>.ret
theorem mr {nt:Nat}{fix:List Nat}(u:V.nt=nt)(r:∀ x∈V.fixt,x.1∈fix)(h:lm nt fix all o=true):bM V o:=by
 intro d I;simp only[lm,I,BC,Bz,CO]at h;obtain⟨⟨y,z⟩,_⟩:=h;refine⟨by rw[u];simpa[CA]using y,λx H e=>?_⟩;exact z _ (r x H) (by simp[e])
end
section
variable {P:Program} {V:Env} {Γ:List Ctr} {T:TypeId->TI} {R:Type}
open Classical in
theorem tK {Q:Exit->Act->World->Prop}{a:Act}{w:World}{c:Code}(J:Nat->Act->World->Prop)(h0:∃ n,J n a w)(hz:∀ a w,¬ J 0 a w)
  (y:∀ n a w,J (n+1) a w->c.wp P (Exit.then (J n) Q) a w):(Code.loop c).wp P Q a w:=by
 have u:∀ (a:Act) (w:World) (n:Nat),J n a w->∃ m,J m a w/\m<=n/\∀ k,J k a w->m<=k:=by
  intro a w n;induction n using Cu with
  |ind n ih =>
   intro z;by_cases h:∃ k,k<n/\J k a w
   ·obtain⟨k,O,hJ⟩:=h;obtain⟨m,r,M,I⟩:=ih k O hJ;exact⟨m,r,by omega,I⟩
   ·refine⟨n,z,CY _,λk O=>?_⟩;apply Bq;intro a0;exact h ⟨k,by omega,O⟩
 let H:Act->World->Nat:=λa w=>if h:∃ m,J m a w/\∀ k,J k a w->m<=k then h.choose else 0
 have hμ:∀ a w n,J n a w->J (H a w) a w/\H a w<=n:=by
  intro a w n z;obtain⟨m,r,_,I⟩:=u a w n z;have h:∃ m,J m a w/\∀ k,J k a w->m<=k:=⟨m,r,I⟩;have e:H a w=h.choose:=by simp only[H];rw[dif_pos h]
  rw[e];exact⟨h.choose_spec.1,h.choose_spec.2 n z⟩
 refine wp_loop (λa w=>∃ n,J n a w) H h0 λa w ⟨n,z⟩=>?_
 obtain⟨r,_⟩:=hμ a w n z;cases Z:H a w with
 |zero=>rw[Z]at r;exact absurd r (hz a w)
 |succ m =>
  rw[Z]at r;refine wp_mono (y m a w r) λe a' X Y=>?_
  cases e with
  |normal =>
   have M:J m a' X:=Y;exact⟨⟨m,M⟩,Nat.lt_succ_of_le (hμ a' X m M).2⟩
  |_=>exact Y
theorem yY {st:St}{a:Act}{w:World}(u:Rel P V st a w){t:Nat}(y:t<GH){b:Bool}(z:(st t).sh=.one)(I:(st t).ls=[.bool b]):a.eval (.tmp t)=.bool b:=by
 obtain⟨W,u⟩:=u;have r:=u.slots t y;rw[z]at r;have r:W.cs t=[a.tmps.getD t undef]:=r;have H:=u.leaf t 0 (.bool b) (a.tmps.getD t undef) (by rw[I];rfl) (by rw[r];rfl);exact H
theorem se (hV:ax V)(hT:TOk P T)(hΓ:∀ c∈Γ,bO P c)(a4:P.follows .mixedOrders=true){fx:List Nat}(a5:∀ x∈V.fixb,x.1∈fx){nt:Nat}{fix:List Nat}(a1:V.nt=nt)(a3:∀ x∈V.fixt,x.1∈fix)
  {L:List (Nat×List (Nat×List Coe))} {X:Nat}:∀ (c:Code),dO nt fix c=true->dn L fx c=true->∀ (st:St) (I:Ex->St->Option R) (r:R) (Q:Exit->Act->World->Prop),evK Γ T L X c st I=some r ->
   (∀ ex J,I ex J=some r->∀ a w,Rel P V J a w->Q (exOf ex) a w)->∀ a w,Rel P V st a w->c.wp P Q a w:=by
 intro c;induction c with
 |skip=>exact λ_ _ st I r Q h z a w u=>wp_skip (z .normal st h a w u)
 |region id a2 a9 =>
  intro hc hlp st I r Q h z a w u;simp only[dO,BX]at hc;have a0:∀ (i:Nat) (o:Oper),a2[i]?=some o->lm nt fix a2 o=true:=λi o hi=>hc o (by simpa using CW hi)
  refine Bf hV hT hΓ a4 (λi o hi=>mr a1 a3 (a0 i o hi)) (λi o hi j a6 hg s hs=>?_) h (λJ H a w u=>z .normal J H a w u) u;have:=a0 i o hi;simp only[lm,hg,hs,BC]at this;rw[a1];simpa[CA]using this.2
 |seq x y Y Z =>
  intro hc hlp st I r Q h z a w u;simp only[dO,BC]at hc;simp only[dn,BC]at hlp;simp only[evK]at h;refine wp_seq (Y hc.1 hlp.1 st _ r _ h (λex J H a w u=>?_) a w u);cases ex with
  |normal=>exact Z hc.2 hlp.2 J I r Q H z a w u
  |exit id=>exact z (.exit id) J H a w u
  |ret=>exact z .ret J H a w u
 |cond t x y Y Z =>
  intro hc hlp st I r Q h z a w u;simp only[dO,BC]at hc;simp only[dn,BC]at hlp;simp only[evK]at h;unfold zf at h;split at h
  ·rename_i t;split at h
   ·rename_i b H h2;have hv:=yY u (Ci (by have:=hc.1.1;simp only[wC,CA]at this;rw[a1];exact this) hV.nt) H h2;cases b with
    |true =>
     simp only[cond_true]at h;rw[pd H h2]at h;exact wp_cond_true hv (Y hc.1.2 hlp.1 st I r Q h z a w u)
    |false =>
     simp only[cond_false]at h;rw[pd H h2]at h;exact wp_cond_false hv (Z hc.2 hlp.2 st I r Q h z a w u)
   ·cases h
  ·rename_i b;cases b with
   |true=>exact wp_cond_true rfl (Y hc.1.2 hlp.1 st I r Q h z a w u)
   |false=>exact wp_cond_false rfl (Z hc.2 hlp.2 st I r Q h z a w u)
  ·cases h
 |block id c ih =>
  intro hc hlp st I r Q h z a w u;simp only[dO]at hc;simp only[dn]at hlp;simp only[evK]at h;refine wp_block (ih hc hlp st _ r _ h (λex J H a w u=>?_) a w u);cases ex with
  |normal=>exact z .normal J H a w u
  |exit M =>
   simp only[sj]at H;show if M=id then Q .normal a w else Q (.exit M) a w
   by_cases e:M=id
   ·rw[if_pos e];subst e;simp only[Nat.beq_refl,cond_true]at H;exact z .normal J H a w u
   ·rw[if_neg e];have hb:BJ M id=false:=by
     cases hb:BJ M id with
     |false=>rfl
     |true=>exact absurd (BH hb) e
    rw[hb]at H;exact z (.exit M) J H a w u
  |ret=>exact z .ret J H a w u
 |loop c ih =>
  intro hc hlp st I r Q h z a w u;simp only[dO]at hc;simp only[dn,BC,BX]at hlp;simp only[evK]at h;have O:∀ x∈V.fixb,x.1∈(ll L (eN c)).map (·.1):=λx hx=>by
   obtain⟨r,u,he⟩:=CE.1 (hlp.1 x.1 (a5 x hx));exact BL.2 ⟨r,u,BH he⟩
  refine tK (λn a w=>∃ st,aV (ll L (eN c)) (evK Γ T L X c) n st I=some r/\Rel P V st a w) ⟨X,_,h,ve hV u _ O⟩ ?_ ?_
  ·rintro a w ⟨st,H,_⟩;cases H
  ·rintro n a w ⟨st,H,u⟩;simp only[aV]at H;refine ih hc hlp.2 st _ r _ H (λex J h2 a w u=>?_) a w u;cases ex with
   |normal=>exact⟨_,h2,ve hV u _ O⟩
   |exit id=>exact z (.exit id) J h2 a w u
   |ret=>exact z .ret J h2 a w u
 |exit id=>exact λ_ _ st I r Q h z a w u=>wp_exit (z (.exit id) st h a w u)
 |ret=>exact λ_ _ st I r Q h z a w u=>wp_ret (z .ret st h a w u)
 |_=>intro _ _ st I r Q h;simp[evK]at h
end
section
variable {P:Program} {Γ:List Ctr} {T:TypeId->TI} {R:Type} {w:World} {ro pr:Nat->Prop}
theorem iX {G:Nat->Prop}{p:Bool}:∀ {b:Ty} {h:Option Nat} {pos:Nat} {x:b.den} {cs:List Value} {bs:List Nat},Mx w G b h pos x cs bs->bs.Nodup ->
  ∃ a2:Nat->List Nat,
   (∀ (V:Env) (W:Wit) (st:St),(∀ k,G k->gd V W p k)->∀ (j:Nat) (l:Leaf) (u:Value),h≠some (pos+j)->(aq p b x)[j]?=some l->cs[j]?=some u->aI P V W st w (a2 j) l u) /\
   (∀ (j:Nat) (l:Leaf),h≠some (pos+j)->(aq p b x)[j]?=some l->ao l->∀ k∈a2 j,k∈bs) /\
   (∀ (j J:Nat) (l l':Leaf),h≠some (pos+j)->h≠some (pos+J)->(aq p b x)[j]?=some l->ao l->(aq p b x)[J]?=some l'->ao l'->∀ k,k∈a2 j->k∈a2 J->j=J)
 |.int k,_,_,x,cs,bs,H,_=>by
  obtain⟨rfl,rfl⟩:=H;exact⟨λ_=>[],λV W st _ j l u _ y X=>by cases j with|zero=>simp[aq]at y X;subst y;subst X;rfl|succ j=>simp[aq]at y,λj l _ y _ k r=>by simp at r,λj J l l' _ _ _ _ _ _ k r=>by simp at r⟩
 |.bool,_,_,x,cs,bs,H,_=>by
  obtain⟨rfl,rfl⟩:=H;exact⟨λ_=>[],λV W st _ j l u _ y X=>by cases j with|zero=>simp[aq]at y X;subst y;subst X;rfl|succ j=>simp[aq]at y,λj l _ y _ k r=>by simp at r,λj J l l' _ _ _ _ _ _ k r=>by simp at r⟩
 |.str,_,_,x,cs,bs,H,_=>by
  obtain⟨rfl,rfl⟩:=H;exact⟨λ_=>[],λV W st _ j l u _ y X=>by cases j with|zero=>simp[aq]at y X;subst y;subst X;rfl|succ j=>simp[aq]at y,λj l _ y _ k r=>by simp at r,λj J l l' _ _ _ _ _ _ k r=>by simp at r⟩
 |.unit,_,_,x,cs,bs,H,_=>by
  obtain⟨rfl,rfl⟩:=H;exact⟨λ_=>[],λV W st _ j l u _ y X=>by simp[aq]at y,λj l _ y _ k r=>by simp at r,λj J l l' _ _ _ _ _ _ k r=>by simp at r⟩
 |.hdr,_,_,x,cs,bs,H,_=>by
  obtain⟨⟨A,a9,rfl⟩,rfl⟩:=H;exact⟨λ_=>[],λV W st _ j l u _ y X=>by cases j with|zero=>simp[aq]at y X;subst y;subst X;exact⟨A,a9,rfl⟩|succ j=>simp[aq]at y,λj l _ y _ k r=>by simp at r,λj J l l' _ _ _ _ _ _ k r=>by simp at r⟩
 |.pair b c,h,pos,x,cs,bs,⟨c1,c2,b1,b2,e1,e2,y,X⟩,Z=>by
  subst e1;subst e2;rw[B5]at Z;obtain⟨d1,f2,f3,f4⟩:=iX y Z.1;obtain⟨d2,g2,g3,g4⟩:=iX X Z.2.1;have b0:=cI p b x.1;have ad:=y.len;have I:∀ (j:Nat) (l:Leaf),(aq p b x.1++aq p c x.2)[j]?=some l->(j<b.cells/\(aq p b x.1)[j]?=some l)\/(b.cells<=j/\(aq p c x.2)[j-b.cells]?=some l):=by
   intro j l z;by_cases O:j<b.cells
   ·rw[Bp (by omega)]at z;exact .inl ⟨O,z⟩
   ·rw[BZ (by omega),b0]at z;exact .inr ⟨by omega,z⟩
  have a1:∀ j,b.cells<=j->h≠some (pos+j)->h≠some (pos+b.cells+(j-b.cells)):=λj z hh=>by rwa [show pos+b.cells+(j-b.cells)=pos+j by omega]
  refine⟨λj=>if j<b.cells then d1 j else d2 (j-b.cells),λV W st hG j l u hh z hu=>?_,λj l hh z ho k r=>?_,λj J l l' hh a3 z ho Y a4 k r M=>?_⟩
  ·rcases I j l z with ⟨O,z⟩|⟨a0,z⟩
   ·rw[Bp (by omega)]at hu;simp only[if_pos O];exact f2 V W st hG j l u hh z hu
   ·rw[BZ (by omega),ad]at hu;simp only[if_neg (show ¬ j<b.cells by omega)];exact g2 V W st hG _ l u (a1 j a0 hh) z hu
  ·rcases I j l z with ⟨O,z⟩|⟨a0,z⟩
   ·simp only[if_pos O]at r;exact BD _ (f3 j l hh z ho k r)
   ·simp only[if_neg (show ¬ j<b.cells by omega)]at r;exact BE _ (g3 _ l (a1 j a0 hh) z ho k r)
  ·rcases I j l z with ⟨O,z⟩|⟨a0,z⟩ <;> rcases I J l' Y with ⟨a5,Y⟩|⟨a6,Y⟩
   ·simp only[if_pos O]at r;simp only[if_pos a5]at M;exact f4 j J l l' hh a3 z ho Y a4 k r M
   ·simp only[if_pos O]at r;simp only[if_neg (show ¬ J<b.cells by omega)]at M;exact absurd rfl (Z.2.2 k (f3 j l hh z ho k r) k (g3 _ l' (a1 J a6 a3) Y a4 k M))
   ·simp only[if_neg (show ¬ j<b.cells by omega)]at r;simp only[if_pos a5]at M;exact absurd rfl (Z.2.2 k (f3 J l' a3 Y a4 k M) k (g3 _ l (a1 j a0 hh) z ho k r))
   ·simp only[if_neg (show ¬ j<b.cells by omega)]at r;simp only[if_neg (show ¬ J<b.cells by omega)]at M;have:=g4 _ _ l l' (a1 j a0 hh) (a1 J a6 a3) z ho Y a4 k r M;omega
 |.list m E e,h,pos,xs,cs,bs,H,Z=>by
  cases m with
  |false =>
   rw[co]at H;obtain⟨rfl,A,a9,rfl,X,h3⟩:=H;refine⟨λ_=>[],λV W st hG j l u _ y h4=>?_,λj l _ y _ k r=>by simp at r,λj J l l' _ _ _ _ _ _ k r=>by simp at r⟩;cases j with
   |zero =>
    simp[aq]at y h4;subst y;subst h4;exact Rd.mono hG (⟨A,a9,rfl,X,h3⟩:Rd w G (.list false E e) xs _)
   |succ j=>simp[aq]at y
  |true =>
   refine⟨λ_=>bs,λV W st hG j l u hh y h4=>?_,λj l _ y _ k r=>r,λj J l l' _ _ y _ h3 _ k _ _=>?_⟩
   ·cases j with
    |zero =>
     rw[Nat.add_zero]at hh;rw[bH hh]at H;obtain⟨v,rfl,hO⟩:=H;simp[aq]at y h4;subst y;subst h4;exact⟨Z,OwB.shy (hO.carry hG (λ_ _=>rfl) (λ_ _=>rfl))⟩
    |succ j=>simp[aq]at y
   ·have h7:j<1:=by simpa[aq]using (BK.1 y).1
    have h8:J<1:=by simpa[aq]using (BK.1 h3).1
    omega
theorem mt {p:Bool}{off:Nat}:∀ {a:Ty} {pos:Nat} {x:a.den} {E:TypeId} {e:Ty} {xs:List e.den},bc off a pos x=some ⟨E,e,xs⟩->(aq p a x)[off-pos]?=some (.own (p&&e.shy) none E e xs)
 |.pair a b,pos,x,E,e,xs,h=>by
  have H:=cI p a x.1;simp only[bc]at h;simp only[aq];split at h
  ·rename_i u z;simp only[BA]at h;subst h;have y:=gv z;rw[Bp (by omega)];exact mt z
  ·have y:=gv h;rw[BZ (by omega),H,show off-pos-a.cells=off-(pos+a.cells) by omega];exact mt h
 |.list m I J,pos,M,E,e,xs,h=>by
  simp only[bc]at h;cases r:m&&BJ pos off with
  |false=>simp[r]at h
  |true =>
   rw[r]at h;simp only[cond_true,BA,Sigma.mk.injEq]at h;obtain⟨rfl,h⟩:=h;simp only[BC]at r;obtain⟨rfl,r⟩:=r;have r:=BH r;subst r;rw[heq_eq_eq,Sigma.mk.injEq]at h;obtain⟨rfl,h⟩:=h;rw[heq_eq_eq]at h;subst h;simp[aq]
 |.int _,_,_,_,_,_,h=>by simp[bc]at h
 |.bool,_,_,_,_,_,h=>by simp[bc]at h
 |.str,_,_,_,_,_,h=>by simp[bc]at h
 |.unit,_,_,_,_,_,h=>by simp[bc]at h
 |.hdr,_,_,_,_,_,h=>by simp[bc]at h
theorem tL (V:Env)(W:Wit)(I:V.ro0=ro)(r:V.prot=pr):∀ {cs:List (Bool×Ty)} {x:lF cs} {us:List Value},jA w ro pr cs x us->us.length=(jO true cs x).length /\
  ∀ (i:Nat) (c:Bool×Bool×(a:Ty)×a.den) (u:Value),(jO true cs x)[i]?=some c->us[i]?=some u->iJ V W w c u
 |[],_,us,h=>by
  have h:us=[]:=h;subst h;exact⟨rfl,λi c u z _=>by simp[jO]at z⟩
 |c::cs,x,us,⟨u,a0,e,z,h2⟩=>by
  subst e;obtain⟨i1,i2⟩:=tL V W I r h2;refine⟨by simp[jO,i1],λi c' u' J O=>?_⟩;cases i with
  |succ i=>exact i2 i c' u' (by simpa[jO]using J) (by simpa using O)
  |zero =>
   simp[jO]at J O;subst J;subst O;have hG:∀ k,ro k->gd V W true k:=λk hk=>.inr ⟨rfl,by rw[I];exact hk⟩
   unfold iJ;unfold gM at z;split at z
   ·rename_i H;simp only[H,if_true];obtain⟨b,ob,g,o,Z,M,X,y,hg,Y,hc⟩:=z;exact⟨b,ob,g,o,Z,M,.inr (by rw[r];exact X),y,.inr (by rw[r];exact hg),Y.mono hG,hc⟩
   ·rename_i H;have H:c.1=false:=by simpa using H
    simp only[H,CI,if_false];obtain⟨g,o,Z,M,hg,Y,hc⟩:=z;exact⟨g,o,Z,by rw[M];rfl,.inr (by rw[r];exact hg),Y.mono hG,hc⟩
structure Ent where
 r:Nat
 c:bS
 cs:List Value
 bs:Nat->List Nat
 bl:List Nat
 g:Nat
structure qf (P:Program) (w:World) (ro pr:Nat->Prop) (bx:List (Nat×Nat)) (e:Ent):Prop where
 len:e.c.ls.length=e.cs.length
 one:∀ u∈e.cs,u.oneCell'=true
 leaf:∀ (V:Env) (W:Wit) (st:St),V.w0=w->V.ro0=ro->V.prot=pr->(∀ z∈bx,B0<=z.1/\(st z.1).sh=.agg/\W.β z.1=z.2)->∀ (j:Nat) (l:Leaf) (u:Value),e.c.ls[j]?=some l->e.cs[j]?=some u->aI P V W st w (e.bs j) l u
 own:∀ (j:Nat) (l:Leaf),e.c.ls[j]?=some l->ao l->∀ k∈e.bs j,k∈e.bl
 sep:∀ (j j':Nat) (l l':Leaf),e.c.ls[j]?=some l->ao l->e.c.ls[j']?=some l'->ao l'->∀ k,k∈e.bs j->k∈e.bs j'->j=j'
 box:B0<=e.r->e.c.sh=.agg/\e.g∈e.bl/\(∀ (j:Nat) (l:Leaf),e.c.ls[j]?=some l->ao l->e.g∉e.bs j)/\(∃ E,w.heap[e.g]?=some (.cells e.cs.toArray E (0,0)))/\(e.r,e.g)∈bx
theorem qf.mono {u r:List (Nat×Nat)}{e:Ent}(h:qf P w ro pr u e)(y:∀ z∈u,z∈r):qf P w ro pr r e :=
  { len:=h.len,one:=h.one,own:=h.own,sep:=h.sep
    leaf:=λV W M h1 J I O=>h.leaf V W M h1 J I (λz H=>O z (y z H))
    box:=λhr=>by obtain⟨Z,Y,q3,q4,X⟩:=h.box hr;exact⟨Z,Y,q3,q4,y _ X⟩ }
structure ww (P:Program) (w:World) (ro pr:Nat->Prop) (t:Nat) (pk:PK) (v:Value) (b:List Nat) (bx:List (Nat×Nat)) (es:List Ent):Prop where
 bl:es.flatMap (·.bl)=b
 ok:∀ e∈es,qf P w ro pr bx e
 at_:∀ e∈es,e.r=t\/e.r=B0+t
 nod:(es.map (·.r)).Nodup
 slot:∃ e∈es,e.r=t/\ea e.c.sh v e.cs
 bxs:∀ z∈bx,z.1=B0+t/\(∃ e∈es,e.r=B0+t/\e.g=z.2)
theorem tM (t n:Nat){a:Ty}{x:a.den}{v:Value}{cs:List Value}{b:List Nat}(J:b.Nodup)(h1:c9 a.isAgg v cs)(I:Mx w ro a none 0 x cs b)(a0:t<B0) :
    ∃ Y,ww P w ro pr t (.own a) v b [] Y/\[((t,⟨n,bf a.isAgg,aq true a x⟩):Nat×bS)]=Y.map (λe=>(e.r,e.c)):=by
  obtain⟨O,m1,m2,m3⟩:=iX (P:=P) (p:=true) I J;have H:∀ j,(none:Option Nat)≠some (0+j):=λj=>by simp
  refine⟨[⟨t,⟨n,bf a.isAgg,aq true a x⟩,cs,O,b,0⟩],⟨by simp,?_,by simp,by simp,⟨_,BV _,rfl,j8 h1⟩,by simp⟩,rfl⟩;intro e X;simp only[Bv]at X;subst X
  exact { len := by show (aq true a x).length = _; rw [cI, I.len]
          one:=I.one
          leaf:=λV W st _ M _ _ j l u y z=>m1 V W st (λk hk=>.inr ⟨rfl,by rw[M];exact hk⟩) j l u (H j) y z
          own:=λj l y z=>m2 j l (H j) y z
          sep:=λj Z l l' y z h5 h6=>m3 j Z l l' (H j) (H Z) y z h5 h6
          box:=λhr=>absurd hr (by show ¬ B0<=t;omega) }
theorem nT (t:Nat){l:Leaf}{v:Value}{pk:PK}(a0:t<B0)(J:¬ ao l)(h1:v.oneCell'=true)(z:∀ (V:Env) (W:Wit) (st:St),V.w0=w->V.ro0=ro->V.prot=pr->aI P V W st w [] l v) :
    ∃ es,ww P w ro pr t pk v [] [] es/\[((t,⟨0,.one,[l]⟩):Nat×bS)]=es.map (λe=>(e.r,e.c)):=by
  refine⟨[⟨t,⟨0,.one,[l]⟩,[v],λ_=>[],[],0⟩],⟨by simp,?_,by simp,by simp,⟨_,BV _,rfl,rfl⟩,by simp⟩,rfl⟩;intro e he;simp only[Bv]at he;subst he;have M:∀ (j:Nat) (y:Leaf),[l][j]?=some y->j=0/\y=l:=λj y Y=>by
    cases j with
    |zero=>simp at Y;exact⟨rfl,Y.symm⟩
    |succ j=>simp at Y
  exact { len := rfl
          one:=λu Z=>by simp at Z;subst Z;exact h1
          leaf:=λV W st hw X O _ j y u I H=>by
            obtain⟨rfl,rfl⟩:=M j y I;simp at H;subst H;exact z V W st hw X O
          own:=λj y I H=>by obtain⟨_,rfl⟩:=M j y I;exact absurd H J
          sep:=λj j' l1 l2 I H=>by obtain⟨_,rfl⟩:=M j l1 I;exact absurd H J
          box:=λhr=>absurd hr (by show ¬ B0<=t;omega) }
def tN:Value->Nat
 |.pointer (some a)=>a.block
 |_=>0
def d7 (t:Nat):List PK->List Value->List (Nat×Nat)
 |.iop _::u,v::r=>(B0+t,tN v)::d7 (t+1) u r
 |_::u,_::r=>d7 (t+1) u r
 |_,_=>[]
def d8 (t:Nat):List PK->List Value->List (Nat×Value)
 |.io _::u,v::r=>(t,v)::d8 (t+1) u r
 |.iop _::u,v::r=>(t,v)::d8 (t+1) u r
 |_::u,_::r=>d8 (t+1) u r
 |_,_=>[]
def PK.bx (t:Nat)(v:Value):PK->List (Nat×Nat)
 |.iop _=>[(B0+t,tN v)]
 |_=>[]
theorem Bg (t:Nat)(a1:t<B0){pk:PK}{ps:List PK}{x:ab (pk::ps)}{v:Value}{b:List Nat}(a0:b.Nodup)(h:nQ P w ro pr pk x.1 v b) :
    ∃ es,ww P w ro pr t pk v b (pk.bx t v) es/\di t (pk::ps) x=es.map (λe=>(e.r,e.c))++di (t+1) ps x.2:=by
  cases pk with
  |rd a =>
    obtain⟨rfl,cs,h1,h2⟩:=h;refine⟨[⟨t,⟨0,bf a.isAgg,cJ true a x.1⟩,cs,λ_=>[],[],0⟩],⟨by simp,?_,by simp,by simp,⟨_,BV _,rfl,j8 h1⟩,by simp[PK.bx]⟩,rfl⟩;intro e he;simp only[Bv]at he;subst he;have b9:∀ (V:Env) (W:Wit) (st:St),V.ro0=ro->aC P V W st w (cJ true a x.1) cs:=λV W st I=>eS (G:=ro) (λk J=>.inr ⟨rfl,by rw[I];exact J⟩) h2
    have ad:∀ (j:Nat) (l:Leaf),(cJ true a x.1)[j]?=some l->¬ ao l:=λj l M=>by
      have hl:=gI true a x.1;have hc:=h2.len;have c0:=(BK.1 M).1;exact ((b9 ⟨w,ro,[],0,[],[]⟩ ⟨λ_=>0,λ_=>[],λ_ _=>[],λ_=>False⟩ (λ_=>bS.none) rfl).at_ j l _ M (BR (by omega))).2.1
    exact { len := by show (cJ true a x.1).length = _; rw [gI, h2.len]
            one:=h2.one
            leaf:=λV W st _ I _ _ j l u y H=>((b9 V W st I).at_ j l u y H).1
            own:=λj l y H=>absurd H (ad j l y)
            sep:=λj j' l l' y H=>absurd H (ad j l y)
            box:=λhr=>absurd hr (by show ¬ B0<=t;omega) }
  |own a =>
    obtain⟨cs,h1,h2⟩:=h;obtain⟨es,y,H⟩:=tM (P:=P) (pr:=pr) t 0 a0 h1 h2 a1;exact⟨es,⟨y.bl,y.ok,y.at_,y.nod,y.slot,y.bxs⟩,by rw[<- H];rfl⟩
  |io a =>
    obtain⟨cs,h1,h2⟩:=h;obtain⟨es,y,H⟩:=tM (P:=P) (pr:=pr) t 7 a0 h1 h2 a1;exact⟨es,⟨y.bl,y.ok,y.at_,y.nod,y.slot,y.bxs⟩,by rw[<- H];rfl⟩
  |rref a =>
    obtain⟨rfl,h⟩:=h;unfold gM at h;rw[if_neg (by simp)]at h;obtain⟨g,o,c,hv,hg,hr,hc⟩:=h;subst hv;obtain⟨es,y,H⟩:=nT (P:=P) (w:=w) (ro:=ro) (pr:=pr) t (pk:=.rref a) (l:=.rp true a x.1 0) (v:=.pointer (some ⟨g,o,none⟩)) a1 id rfl (λV W st hw I X=>⟨g,o,c,rfl,.inr (by rw[X];exact hg),hr.mono (λk J=>.inr ⟨rfl,by rw[I];exact J⟩),hc⟩);exact⟨es,y,by rw[<- H];rfl⟩
  |rref2 a =>
    obtain⟨rfl,h⟩:=h;unfold gM at h;rw[if_pos rfl]at h;obtain⟨b,ob,g,o,c,hv,hb,a5,hg,hr,hc⟩:=h;subst hv;obtain⟨es,y,H⟩:=nT (P:=P) (w:=w) (ro:=ro) (pr:=pr) t (pk:=.rref2 a) (l:=.rpp true a x.1) (v:=.pointer (some ⟨b,ob,none⟩)) a1 id rfl (λV W st hw I X=>⟨b,ob,g,o,c,rfl,.inr (by rw[X];exact hb),a5,.inr (by rw[X];exact hg),hr.mono (λk J=>.inr ⟨rfl,by rw[I];exact J⟩),hc⟩);exact⟨es,y,by rw[<- H];rfl⟩
  |fn As B =>
    obtain⟨rfl,h⟩:=h;have bb:v.oneCell'=true:=by
      obtain⟨f,bn,e,_⟩:=h;rw[e];rfl
    obtain⟨es,y,H⟩:=nT (P:=P) (w:=w) (ro:=ro) (pr:=pr) t (pk:=.fn As B) (l:=.fn As B x.1) (v:=v) a1 id bb (λV W st hw I X=>by
      show hZ P V.w0 V.prot As B x.1 v;rw[hw,X];exact h)
    exact⟨es,y,by rw[<- H];rfl⟩
  |clo f cs =>
    obtain⟨rfl,us,e,h⟩:=h;subst e;obtain⟨es,y,H⟩:=nT (P:=P) (w:=w) (ro:=ro) (pr:=pr) t (pk:=.clo f cs) (l:=.clr f (jO true cs x.1)) (v:=.func (.func f) #[] us.toArray) a1 id rfl (λV W st hw I X=>by
      obtain⟨i1,i2⟩:=tL V W I X h;exact⟨us,rfl,i1,i2⟩)
    exact⟨es,y,by rw[<- H];rfl⟩
  |iop a =>
    obtain⟨g,c,E,b0,hv,hg,hm,rfl⟩:=h;subst hv;rw[Bw]at a0;obtain⟨a6,m1,m2,m3⟩:=iX (P:=P) (p:=true) hm a0.2;have hn:∀ j,(none:Option Nat)≠some (0+j):=λj=>by simp
    have Z:t≠B0+t:=by simp[B0]
    refine⟨[⟨t,⟨0,.one,[.bp (B0+t) 0]⟩,[.pointer (some ⟨g,0,none⟩)],λ_=>[],[],0⟩,⟨B0+t,⟨0,.agg,aq true a x.1⟩,c,a6,g::b0,g⟩],
      ⟨by simp,?_,λe he=>by simp at he;rcases he with rfl|rfl <;> simp,by rw[BY,BY,Cx,Bw];exact⟨by simpa using Z,by simp⟩,⟨_,BG ..,rfl,rfl⟩,λz hz=>?_⟩,rfl⟩
    · intro e he
      simp only[BO,List.not_mem_nil,or_false]at he;rcases he with rfl|rfl
      · have h0:∀ (j:Nat) (l':Leaf),[Leaf.bp (B0+t) 0][j]?=some l'->j=0/\l'=.bp (B0+t) 0:=λj l' M=>by
          cases j with
          |zero=>simp at M;exact⟨rfl,M.symm⟩
          |succ j=>simp at M
        exact { len := rfl
                one:=λu hu=>by simp at hu;subst hu;rfl
                leaf:=λV W st hw I X hb j l' u y H=>by
                  obtain⟨rfl,rfl⟩:=h0 j l' y;simp at H;subst H;obtain⟨q1,q2,q3⟩:=hb (B0+t,g) (BV _);exact⟨q1,q2,by rw[q3]⟩
                own:=λj l' y H=>by obtain⟨_,rfl⟩:=h0 j l' y;exact H.elim
                sep:=λj j' l1 l2 y H=>by obtain⟨_,rfl⟩:=h0 j l1 y;exact H.elim
                box:=λhr=>absurd hr (by show ¬ B0<=t;omega) }
      · exact { len := by show (aq true a x.1).length = _; rw [cI, hm.len]
                one:=hm.one
                leaf:=λV W st _ I _ _ j l u y H=>m1 V W st (λk J=>.inr ⟨rfl,by rw[I];exact J⟩) j l u (hn j) y H
                own:=λj l y H k J=>BF _ (m2 j l (hn j) y H k J)
                sep:=λj j' l l' y H h5 h6=>m3 j j' l l' (hn j) (hn j') y H h5 h6
                box:=λ_=>⟨rfl,BG ..,λj l y H J=>a0.1 (m2 j l (hn j) y H g J),⟨E,hg⟩,BV _⟩ }
    · simp only[PK.bx,Bv]at hz
      subst hz;exact⟨rfl,_,BF _ (BV _),rfl,rfl⟩
  |hol a c off =>
    obtain⟨cs,u,b0,b1,E,e,xs,h1,h2,y,H,h5,h6⟩:=h;have a2:=bq.1 a0;have b6:b0.Nodup:=bq.2 λk=>by have:=a2 k;have:=h6 k;omega
    have b3:b1.Nodup:=bq.2 λk=>by have:=a2 k;have:=h6 k;omega
    have a4:∀ k,k∈b0->k∉b1:=λk J Y=>by
      have:=a2 k;have:=h6 k;have:=BW.2 J;have:=BW.2 Y;omega
    have a9:∀ k∈b0,k∈b:=λk J=>BW.1 (by have:=h6 k;have:=BW.2 J;omega)
    have b4:∀ k∈b1,k∈b:=λk J=>BW.1 (by have:=h6 k;have:=BW.2 J;omega)
    obtain⟨a6,m1,m2,m3⟩:=iX (P:=P) (p:=true) h2 b6;have Z:∀ j,j≠c->(some c:Option Nat)≠some (0+j):=λj M=>by simp;omega
    have b2:=mt (p:=true) H;rw[Nat.sub_zero]at b2;have ba:(aq true a x.1.1).getD c .dead=.own (true&&e.shy) none E e xs:=by rw[BP,b2];rfl
    refine⟨[⟨t,⟨0,bf a.isAgg,aS (aq true a x.1.1) c (.own (true&&e.shy) (some (x.1.2,off)) E e xs)⟩,cs,λj=>if j=c then b1 else a6 j,b,0⟩],
      ⟨by simp,?_,by simp,by simp,⟨_,BV _,rfl,j8 h1⟩,by simp[PK.bx]⟩,?_⟩
    · intro en he
      simp only[Bv]at he;subst he;have O:∀ (j:Nat) (l:Leaf),(aS (aq true a x.1.1) c (.own (true&&e.shy) (some (x.1.2,off)) E e xs))[j]?=some l->(j=c/\l=.own (true&&e.shy) (some (x.1.2,off)) E e xs)\/(j≠c/\(aq true a x.1.1)[j]?=some l):=by
        intro j l M;rcases aQ _ _ _ _ _ M with ⟨q1,q2,_⟩|⟨q1,q2⟩
        · exact .inl ⟨q1,q2⟩
        · exact .inr ⟨q1,q2⟩
      exact { len := by show (aS (aq true a x.1.1) c _).length = _; simp only [aS, List.length_set]; rw [cI, h2.len]
              one:=h2.one
              leaf:=λV W st _ I _ _ j l u' h7 h8=>by
                have h8:cs[j]?=some u':=h8;rcases O j l h7 with ⟨rfl,rfl⟩|⟨M,h7⟩
                · rw[y]at h8
                  simp only[BA]at h8;subst h8;simp only[if_true];exact⟨b3,OwB.shy (p:=true) (h5.carry (λk J=>.inr ⟨rfl,by rw[I];exact J⟩) (λ_ _=>rfl) (λ_ _=>rfl))⟩
                · simp only[if_neg M]
                  exact m1 V W st (λk J=>.inr ⟨rfl,by rw[I];exact J⟩) j l u' (Z j M) h7 h8
              own:=λj l h7 h8 k J=>by
                rcases O j l h7 with ⟨rfl,rfl⟩|⟨M,h7⟩
                · simp only[if_true]at J;exact b4 k J
                · simp only[if_neg M]at J;exact a9 k (m2 j l (Z j M) h7 h8 k J)
              sep:=λj j' l l' h7 h8 h9 b5 k J Y=>by
                rcases O j l h7 with ⟨rfl,rfl⟩|⟨M,h7⟩ <;> rcases O j' l' h9 with ⟨rfl,rfl⟩|⟨a3,h9⟩
                · rfl
                · simp only[if_true]at J;simp only[if_neg a3]at Y
                  exact absurd J (a4 k (m2 j' l' (Z j' a3) h9 b5 k Y))
                · simp only[if_neg M]at J;simp only[if_true]at Y
                  exact absurd Y (a4 k (m2 j l (Z j M) h7 h8 k J))
                · simp only[if_neg M]at J;simp only[if_neg a3]at Y
                  exact m3 j j' l l' (Z j M) (Z j' a3) h7 h8 h9 b5 k J Y
              box:=λhr=>absurd hr (by show ¬ B0<=t;omega) }
    · show (t,(⟨0,bf a.isAgg,aS (aq true a x.1.1) c (uB x.1.2 off ((aq true a x.1.1).getD c .dead))⟩:bS))::di (t+1) ps x.2=_
      rw[ba];rfl
theorem tO:∀ {ps:List PK} {x:ab ps} {u:List Value} {r:List (List Nat)},c7 P w ro pr ps x u r->u.length=ps.length
 |[],_,_,_,h=>by rw[h.1];rfl
 |_::_,_,_,_,⟨_,_,_,_,e,_,_,h⟩=>by rw[e,B4,B4,tO h]
theorem vf:∀ (ps:List PK) (x:ab ps) (Z:List Value) (H:List (List Nat)) (t:Nat),c7 P w ro pr ps x Z H->H.flatten.Nodup->t+ps.length<=B0 ->
  ∃ X:List Ent,di t ps x=X.map (λe=>(e.r,e.c))/\X.flatMap (·.bl)=H.flatten/\(∀ e∈X,qf P w ro pr (d7 t ps Z) e) /\
   (∀ e∈X,(t<=e.r/\e.r<t+ps.length)\/(B0+t<=e.r/\e.r<B0+t+ps.length))/\(X.map (·.r)).Nodup /\
   (∀ (i:Nat) (v:Value),Z[i]?=some v->∃ e∈X,e.r=t+i/\ea e.c.sh v e.cs)/\(∀ z∈d7 t ps Z,∃ e∈X,e.r=z.1/\e.g=z.2/\B0<=z.1)
 |[],x,Z,H,t,⟨e1,e2⟩,_,_=>by
  subst e1;subst e2;exact⟨[],rfl,rfl,by simp,by simp,by simp,λi v h=>by simp at h,by simp[d7]⟩
 |pk::ps,x,Z,H,t,⟨v,Y,b,a1,e1,e2,h1,h2⟩,O,hB=>by
  subst e1;subst e2;rw[BQ,B5]at O;simp only[B4]at hB;obtain⟨a2,J,p2⟩:=Bg t (by omega) (ps:=ps) (x:=x) O.1 h1;obtain⟨a4,q1,q2,q3,q4,q5,q6,q7⟩:=vf ps x.2 Y a1 (t+1) h2 O.2.1 (by omega);have a0:d7 t (pk::ps) (v::Y)=pk.bx t v++d7 (t+1) ps Y:=by cases pk <;> rfl
  refine⟨a2++a4,by rw[p2,q1,CG],by rw[List.flatMap_append,J.bl,q2,BQ],λe y=>?_,λe y=>?_,?_,λi u hi=>?_,λz I=>?_⟩
  ·rw[a0];rcases BB.1 y with y|y
   ·exact (J.ok e y).mono (λz I=>BD _ I)
   ·exact (q3 e y).mono (λz I=>BE _ I)
  ·simp only[B4];rcases BB.1 y with y|y
   ·rcases J.at_ e y with h|h <;> omega
   ·rcases q4 e y with h|h <;> omega
  ·rw[CG,B5];refine⟨J.nod,q5,λa ha b' a5 e0=>?_⟩;subst e0;obtain⟨e,y,rfl⟩:=BL.1 ha;obtain⟨e',a3,e1⟩:=BL.1 a5;rcases J.at_ e y with h|h <;> rcases q4 e' a3 with h'|h' <;> omega
  ·cases i with
   |zero =>
    simp at hi;subst hi;obtain⟨e,y,h3,M⟩:=J.slot;exact⟨e,BD _ y,by omega,M⟩
   |succ i =>
    obtain⟨e,y,h3,M⟩:=q6 i u (by simpa using hi);exact⟨e,BE _ y,by omega,M⟩
  ·rw[a0]at I;rcases BB.1 I with I|I
   ·obtain⟨h3,e,y,M,h5⟩:=J.bxs z I;exact⟨e,BD _ y,by rw[M,h3],h5,by rw[h3];exact Nat.le_add_right _ _⟩
   ·obtain⟨e,y,M,h5,h6⟩:=q7 z I;exact⟨e,BE _ y,M,h5,h6⟩
def fZ (w:World)(ro:Nat->Prop)(ps:List PK)(u:List Value)(r:List (List Nat))(nt:Nat):Env:=⟨w,ro,r.flatten,nt,d7 0 ps u,d8 0 ps u⟩
theorem nU:∀ {I:List Ent},(I.flatMap (·.bl)).Nodup->∀ e∈I,∀ z∈I,∀ k,k∈e.bl->k∈z.bl->e=z
 |[],_,e,O,_,_,_,_,_=>by simp at O
 |x::I,r,e,O,z,M,k,J,u=>by
  rw[List.flatMap_cons,B5]at r;rcases BO.1 O with y|y <;> rcases BO.1 M with H|H
  ·rw[y,H]
  ·rw[y]at J;exact absurd rfl (r.2.2 k J k (BT.2 ⟨z,H,u⟩))
  ·rw[H]at u;exact absurd rfl (r.2.2 k u k (BT.2 ⟨e,y,J⟩))
  ·exact nU r.2.1 e y z H k J u
theorem xR:∀ {I:List Ent},(I.map (·.r)).Nodup->∀ e∈I,∀ z∈I,e.r=z.r->e=z
 |[],_,e,O,_,_,_=>by simp at O
 |x::I,u,e,O,z,J,M=>by
  rw[BY,Bw]at u;rcases BO.1 O with y|y <;> rcases BO.1 J with H|H
  ·rw[y,H]
  ·exact absurd (BL.2 ⟨z,H,by rw[<- M,y]⟩) u.1
  ·exact absurd (BL.2 ⟨e,y,by rw[M,H]⟩) u.1
  ·exact xR u.2 e y z H M
theorem rH:∀ (u:List Ent) (q:Nat),(av (u.map λe=>(e.r,e.c)) q=bS.none/\u.find? (λe=>e.r==q)=none)\/∃ e∈u,e.r=q/\u.find? (λe=>e.r==q)=some e/\av (u.map λe=>(e.r,e.c)) q=e.c
 |[],q=>.inl ⟨rfl,rfl⟩
 |e::u,q=>by
  by_cases h:e.r=q
  ·refine .inr ⟨e,BG ..,h,by simp[h],?_⟩;simp[av,ac,h]
  ·have z:BJ q e.r=false:=by
    cases z:BJ q e.r with
    |false=>rfl
    |true=>exact absurd (BH z).symm h
   have M:av ((e::u).map λe=>(e.r,e.c)) q=av (u.map λe=>(e.r,e.c)) q:=by simp[av,ac,z]
   have O:(e::u).find? (λe=>e.r==q)=u.find? (λe=>e.r==q):=by simp[h]
   rw[M,O];rcases rH u q with y|⟨H,y,I,J,X⟩
   ·exact .inl y
   ·exact .inr ⟨H,BF _ y,I,J,X⟩
theorem vg:∀ {ps:List PK} {r:List Value} {t:Nat} {z:Nat×Value},z∈d8 t ps r->∃ i,z.1=t+i/\r[i]?=some z.2
 |[],_,_,_,h=>by simp[d8]at h
 |u::ps,[],_,_,h=>by cases u <;> simp[d8]at h
 |u::ps,v::r,t,z,h=>by
  have:z=(t,v)\/z∈d8 (t+1) ps r:=by cases u <;> simp[d8]at h <;> first|exact h|exact .inr h
  rcases this with rfl|h
  ·exact⟨0,rfl,rfl⟩
  ·obtain⟨i,H,y⟩:=vg h;exact⟨i+1,by omega,by simpa using y⟩
theorem vh {ps:List PK}{x:ab ps}{M:List Value}{J:List (List Nat)}{nt:Nat}(h:c7 P w ro (λk=>k<w.heap.size/\k∉J.flatten) ps x M J)(a4:J.flatten.Nodup)
  (c4:ps.length<=nt) (hB:nt<=GH):Rel P (fZ w ro ps M J nt) (av (di 0 ps x)) { tmps:=M.toArray++Bx (nt-M.length) undef,defers:=[] } w:=by
 have c2:=tO h;have c3:GH<=B0:=by decide
 obtain⟨Y,q1,q2,q3,q4,q5,q6,q7⟩:=vf ps x M J 0 h a4 (by omega);rw[q1];have c1:=rH Y;have a5:∀ e∈Y,∀ H∈Y,e.r=H.r->e=H:=by
  intro e he H bn hr;exact xR q5 e he H bn hr
 rw[<- q2]at a4;have a0:∀ e∈Y,∀ k∈e.bl,k∈J.flatten:=λe he k hk=>by rw[<- q2];exact BT.2 ⟨e,he,hk⟩
 have hE:∀ q,(av (Y.map λe=>(e.r,e.c)) q=bS.none/\Y.find? (λe=>e.r==q)=none)\/∃ e∈Y,e.r=q/\Y.find? (λe=>e.r==q)=some e/\av (Y.map λe=>(e.r,e.c)) q=e.c:=c1;have a1:∀ q,live (av (Y.map λe=>(e.r,e.c))) q->∃ e∈Y,e.r=q/\B0<=e.r/\Y.find? (λe=>e.r==q)=some e:=by
  rintro q ⟨h1,h2⟩;rcases hE q with ⟨I,_⟩|⟨e,I,y,h5,O⟩
  ·rw[I]at h2;cases h2
  ·exact⟨e,I,y,by rw[y];exact h1,h5⟩
 let β:Nat->Nat:=λq=>match Y.find? (λe=>e.r==q) with|some e=>e.g|none=>0
 let cs:Nat->List Value:=λq=>match Y.find? (λe=>e.r==q) with|some e=>e.cs|none=>[]
 let bs:Nat->Nat->List Nat:=λq j=>match Y.find? (λe=>e.r==q) with|some e=>e.bs j|none=>[]
 have a9:∀ z∈d7 0 ps M,B0<=z.1/\(av (Y.map λe=>(e.r,e.c)) z.1).sh=.agg/\β z.1=z.2:=by
  intro z hz;obtain⟨e,he,h1,h2,I⟩:=q7 z hz;refine⟨I,?_⟩;rcases hE z.1 with ⟨_,y⟩|⟨H,y,h5,O,Z⟩
  ·exfalso;rw[Cj]at y;exact y e he (by simp[h1])
  ·have:H=e:=a5 H y e he (by rw[h5,h1]);subst this;rw[Z];exact⟨((q3 H he).box (by rw[h1];exact I)).1,by simp only[β,O];exact h2⟩
 refine⟨{ β:=β,cs:=cs,bs:=bs,nw:=λ_=>False },?_⟩;have ba:(fZ w ro ps M J nt).prot=λk=>k<w.heap.size/\k∉J.flatten:=rfl
 exact {
  nt:=by show (M.toArray++Bx (nt-M.length) undef).size=nt;simp;omega
  df:=rfl
  slots:=λt ht=>by
   show ea _ ((M.toArray++Bx (nt-M.length) undef).getD t undef) (cs t);by_cases hq:t<ps.length
   ·have hv:=BR (show t<M.length by omega);have:(M.toArray++Bx (nt-M.length) undef).getD t undef=M[t]:=by
     rw[BN,CL (by simp;omega)];simp[hv]
    rw[this];obtain⟨e,he,h1,h2⟩:=q6 t _ hv;rw[B8]at h1;rcases hE t with ⟨_,y⟩|⟨H,y,h5,O,Z⟩
    ·exfalso;rw[Cj]at y;exact y e he (by simp[h1])
    ·have:H=e:=a5 H y e he (by rw[h5,h1]);subst this;rw[Z];simp only[cs,O];exact h2
   ·rcases hE t with ⟨I,y⟩|⟨H,y,h5,O,Z⟩
    ·rw[I];simp only[cs,y];rfl
    ·rcases q4 H y with h8|h8 <;> omega
  boxes:=λb hb=>by
   rcases hE b with ⟨I,y⟩|⟨H,y,h5,O,Z⟩
   ·rw[I];exact .inl ⟨rfl,rfl⟩
   ·obtain⟨g1,g2,g3,⟨E,g4⟩,g5⟩:=(q3 H y).box (by rw[h5];exact hb);rw[Z];exact .inr ⟨g1,E,by simp only[β,cs,O];exact g4⟩
  len:=λq=>by
   rcases hE q with ⟨I,y⟩|⟨H,y,h5,O,Z⟩
   ·rw[I];simp only[cs,y];rfl
   ·rw[Z];simp only[cs,O];exact (q3 H y).len
  one:=λq u hu=>by
   have hu:u∈cs q:=hu;rcases hE q with ⟨I,y⟩|⟨H,y,h5,O,Z⟩
   ·simp only[cs,y]at hu;simp at hu
   ·simp only[cs,O]at hu;exact (q3 H y).one u hu
  leaf:=λq j l v X hv=>by
   have hv:(cs q)[j]?=some v:=hv;rcases hE q with ⟨I,y⟩|⟨H,y,h5,O,Z⟩
   ·rw[I]at X;simp[bS.none]at X
   ·rw[Z]at X;simp only[cs,O]at hv;show aI P _ _ _ w (bs q j) l v;simp only[bs,O];exact (q3 H y).leaf (fZ w ro ps M J nt) _ _ rfl rfl rfl a9 j l v X hv
  ownb:=λq j l X ho k hk=>by
   have hk:k∈bs q j:=hk;rcases hE q with ⟨I,y⟩|⟨H,y,h5,O,Z⟩
   ·rw[I]at X;simp[bS.none]at X
   ·rw[Z]at X;simp only[bs,O]at hk;have b0:=(q3 H y).own j l X ho k hk;refine⟨id,λhp=>hp.2 (a0 H y k b0),λb hb e0=>?_⟩;obtain⟨e2,g1,g2,g3,g4⟩:=a1 b hb;have a6:=(q3 e2 g1).box g3;have e0:β b=k:=e0;simp only[β,g4]at e0;have:=nU a4 H y e2 g1 k b0 (by rw[<- e0];exact a6.2.1);subst this;exact a6.2.2.1 j l X ho (by rw[e0];exact hk)
  sep:=λq j l q' j' l' X ho a2 b2 k hk a3=>by
   have hk:k∈bs q j:=hk;have a3:k∈bs q' j':=a3;rcases hE q with ⟨I,y⟩|⟨e1,y,h5,O,Z⟩
   ·rw[I]at X;simp[bS.none]at X
   ·rcases hE q' with ⟨b3,ad⟩|⟨e2,ad,bb,c0,b5⟩
    ·rw[b3]at a2;simp[bS.none]at a2
    ·rw[Z]at X;rw[b5]at a2;simp only[bs,O]at hk;simp only[bs,c0]at a3;have:=nU a4 e1 y e2 ad k ((q3 e1 y).own j l X ho k hk) ((q3 e2 ad).own j' l' a2 b2 k a3);subst this;exact⟨by rw[<- h5,<- bb],(q3 e1 y).sep j j' l l' X ho a2 b2 k hk a3⟩
  box:=λb hb=>by
   obtain⟨e2,g1,g2,g3,g4⟩:=a1 b hb;have a6:=(q3 e2 g1).box g3;refine⟨id,λhp=>hp.2 ?_⟩;show β b∈_;simp only[β,g4];exact a0 e2 g1 _ a6.2.1
  inj:=λb b' hb b6 e0=>by
   obtain⟨e1,g1,g2,g3,g4⟩:=a1 b hb;obtain⟨e2,b1,b9,b4,bx⟩:=a1 b' b6;have e0:β b=β b':=e0;simp only[β,g4,bx]at e0;have:=nU a4 e1 g1 e2 b1 e1.g ((q3 e1 g1).box g3).2.1 (by rw[e0];exact ((q3 e2 b1).box b4).2.1);subst this;rw[<- g2,<- b9]
  nwlt:=λk hk=>hk.elim
  os:=rfl,tape:=rfl,output:=rfl,size:=CY _,keep:=λ_ _=>rfl
  fixb:=λz hz=>by
   obtain⟨h1,h2,I⟩:=a9 z hz;exact⟨⟨h1,h2⟩,I⟩
  fixt:=λz hz=>by
   obtain⟨i,h1,h2⟩:=vg hz;rw[B8]at h1;show (M.toArray++Bx (nt-M.length) undef).getD z.1 undef=z.2;rw[h1,BN,CL (by simpa using (BK.1 h2).1)];simp[h2] }
end
section
variable {P:Program} {V:Env} {W:Wit} {Γ:List Ctr} {T:TypeId->TI} {R:Type} {st:St} {a:Act} {w:World} {ro:Nat->Prop}
theorem Bh (hT:TOk P T)(h:ap P V W st a w)(x:ResultVar)(z:pq st T x≠.off) :
  ∃ v J,(match x with|.tmp t=>(pure (a.tmps.getD t undef):Sem Value)|.cell b t=>(do loadVar t (<- asAddr (a.tmps.getD b undef)):Sem Value)).run P w=.ok v w /\
   ea (pq st T x) v J/\aC P V W st w (vk st T x) J:=by
 cases x with
 |tmp t =>
  obtain⟨J,h1,M⟩:=cS h (.tmp t);exact⟨_,J,rfl,h1,M⟩
 |cell t u =>
  simp only[pq]at z ⊢;split at z
  ·rename_i b off Y;cases X:decide ((st b).sh=.agg)&&Ca (off+(T u).cells) (st b).ls.length&&!BJ (T u).cells 0 with
   |false=>rw[X]at z;exact absurd rfl z
   |true =>
    simp only[Y,X,cond_true,vk];simp only[BC,decide_eq_true_eq,Bz]at X;obtain⟨⟨h1,M⟩,h3⟩:=X;have M:off+(T u).cells<=(st b).ls.length:=Br M;have Z:T u≠.none:=by
     intro e;rw[e]at h3;simp[TI.cells]at h3
    obtain⟨hp,_,_,_,_⟩:=bo h (.tmp t) (by rw[Y];simp);rw[Y]at hp;obtain⟨hB,a0,y⟩:=hp;have y:a.tmps.getD t undef=.pointer (some ⟨W.β b,off,none⟩):=y;rcases h.boxes b hB with ⟨O,_⟩|⟨_,E,O⟩
    ·rw[a0]at O;cases O
    ·have r:cU w (W.β b) 0 (W.cs b):=λi v y=>by
      rw[B8,cell_of_row w (W.β b) i _ E (0,0) O];simpa using y
     have a2:=h.len b;have H:=r.sub off (T u).cells;rw[B8]at H;obtain⟨v,I,a1⟩:=nZ (hT u) Z H (by simp;omega);refine⟨v,_,?_,a1,((iw h b).drop off).take _⟩;simp only[y];simpa[asAddr]using I
  ·exact absurd rfl z
def ny (a:Act):ResultVar->Sem Value
 |.tmp t=>pure (a.tmps.getD t undef)
 |.cell b t=>do loadVar t (<- asAddr (a.tmps.getD b undef))
def nz (P:Program)(a:Act)(w:World):List ResultVar->List Value->Prop
 |[],u=>u=[]
 |x::y,u=>∃ v r,u=v::r/\(ny a x).run P w=.ok v w/\nz P a w y r
theorem rI:∀ (l:List ResultVar) (u:List Value),nz P a w l u->(l.mapM (ny a)).run P w=.ok u w
 |[],_,h=>by rw[show _=_ from h];rfl
 |x::l,_,⟨v,r,e,y,z⟩=>by subst e;simp[CZ,y,rI l r z]
theorem Ao (b:Bool):bf b≠.off:=by cases b <;> simp[bf]
def RK.isBox:RK->Bool
 |.box _=>true
 |_=>false
theorem tP (hV:ax V)(hT:TOk P T)(h:ap P V W st a w)(a9:V.ro0=ro){fx:List Nat}:∀ (rs:List RK) (I:List ResultVar) (y:cK (ai rs)),kd st T fx rs I=some y ->
  ∀ {G:Nat->Prop},(∀ k,bi V W y.p y.frz k->G k) ->
  ∃ (us:List Value) (H:List (List Nat)) (bx:List Nat),nz P a w I us/\gw w G ro rs y.val us H/\(∀ k,H.flatten.count k=(aW W y.kill).count k+(bx.map W.β).count k) /\
   (∀ b∈bx,live st b/\fx.any (BJ b)=false)/\bx.length=rs.countP RK.isBox/\(∀ z∈y.frz,aB st z)/\∀ z∈y.kill,aB st z
 |[],[],y,J,G,hG=>by
  simp only[kd,BA]at J;subst J;exact⟨[],[],[],rfl,⟨rfl,rfl⟩,λk=>by simp[aW],by simp,rfl,by simp,by simp⟩
 |[],_::_,_,J,_,_=>by simp[kd]at J
 |_::_,[],_,J,_,_=>by simp[kd]at J
 |r::rs,x::I,y,J,G,hG=>by
  simp only[kd]at J;cases O:decide (pq st T x=r.sh) with
  |false=>simp[O]at J
  |true =>
   simp only[O,cond_true]at J;have O:=of_decide_eq_true O;split at J
   ·rename_i X y2 u b4;simp only[BA]at J;subst J;obtain⟨v,a3,b1,M,Z⟩:=Bh hT h x (by rw[O];cases r <;> simp only[RK.sh] <;> first|exact Ao _|simp);rw[O]at M;have a0:∀ k,bi V W X.p X.frz k->G k:=λk hk=>hG k (dP.1 k hk)
    have b2:∀ k,bi V W y2.p y2.frz k->G k:=λk hk=>hG k (dP.2 k hk)
    obtain⟨us,H,bx,i1,i2,i3,i4,i5,i6,i7⟩:=tP hV hT h a9 rs I y2 b4 b2;have a1:(ny a x).run P w=.ok v w:=by cases x <;> exact b1
    have a2:∀ (b:List Nat) (Y:List Nat),pX w G ro r X.val v b->(∀ k,b.count k=(aW W X.kill).count k+(Y.map W.β).count k)->(∀ b∈Y,live st b/\fx.any (BJ b)=false)->Y.length=(if r.isBox then 1 else 0)->(∀ z∈X.frz,aB st z)->(∀ z∈X.kill,aB st z) ->
      ∃ (us:List Value) (H:List (List Nat)) (bx:List Nat),nz P a w (x::I) us/\gw w G ro (r::rs) (X.val,y2.val) us H/\(∀ k,H.flatten.count k=(aW W (X.kill++y2.kill)).count k+(bx.map W.β).count k) /\
       (∀ b∈bx,live st b/\fx.any (BJ b)=false)/\bx.length=(r::rs).countP RK.isBox/\(∀ z∈X.frz++y2.frz,aB st z)/\∀ z∈X.kill++y2.kill,aB st z:=by
     intro b Y f1 f2 f3 f4 f5 f6;refine⟨v::us,b::H,Y++bx,⟨v,us,rfl,a1,i1⟩,⟨v,us,b,H,rfl,rfl,f1,i2⟩,λk=>?_,λz hz=>(BB.1 hz).elim (f3 z) (i4 z),?_,λz hz=>(BB.1 hz).elim (f5 z) (i6 z),λz hz=>(BB.1 hz).elim (f6 z) (i7 z)⟩
     ·rw[BQ,BU,f2 k,i3 k,dH,BU,CG,BU];omega
     ·rw[List.length_append,f4,i5,Cp];cases r.isBox <;> simp <;> omega
    cases r with
    |v b =>
     simp only[rW]at u;obtain⟨g1,g2,g3⟩:=dN (pos:=0) h Z u;exact a2 (aW W X.kill) [] ⟨a3,gx M,g1.mono a0⟩ (λk=>by simp) (by simp) rfl g2 g3
    |bv b =>
     simp only[rW,BI]at u;obtain⟨⟨p,z⟩,hz,rfl⟩:=u;have g1:=ey h Z hz;refine a2 [] [] ⟨rfl,a3,gx M,g1.mono λk hk=>?_⟩ (λk=>by simp[aW]) (by simp) rfl (λz hz=>ei Z hz) (by simp);rcases hk with (hk|⟨_,hk⟩)|hk
     ·exact .inl (a0 k (.inl (.inl hk)))
     ·exact .inr (by rw[<- a9];exact hk)
     ·exact .inl (a0 k (.inr hk))
    |box b =>
     simp only[rW]at u;split at u
     ·rename_i b0 b3;cases a4:!(fx.any (BJ b0)) with
      |false=>rw[a4]at u;cases u
      |true =>
       rw[a4]at u;simp only[cond_true]at u;have M:a3=[v]:=M;subst M;rw[b3]at Z;obtain⟨hB,ad,a5⟩:=Z.1.1;obtain⟨g1,g2,g3⟩:=dN (pos:=0) h (iw h b0) u;rcases h.boxes b0 hB with ⟨h8,_⟩|⟨_,E,h8⟩
       ·rw[ad]at h8;cases h8
       ·exact a2 (W.β b0::aW W X.kill) [b0] ⟨W.β b0,W.cs b0,E,_,a5,h8,g1.mono a0,rfl⟩ (λk=>by
         rw[CH,BY,Cx,CH,List.count_nil];omega) (λb' a6=>by
         simp at a6;subst a6;exact⟨⟨hB,ad⟩,by simpa using a4⟩) rfl g2 g3
     ·cases u
   ·cases J
theorem mu (hV:ax V)(h:ap P V W st a w){w0:World}{pr:Nat->Prop}(a6:V.nt<=GH):∀ (ps:List PK) (x:ab ps) (vs:List Value) (a4:List (List Nat)) (t:Nat) (o:cK (ah ps)),c7 P w0 ro pr ps x vs a4->hX st t ps=some o->t+ps.length<=V.nt ->
  (∀ z∈d8 t ps vs,a.tmps.getD z.1 undef=z.2)->(∀ z∈d7 t ps vs,live st z.1/\W.β z.1=z.2)->∀ {G:Nat->Prop},(∀ k,bi V W o.p o.frz k->G k) ->
  ∃ r,bK w G ps o.val vs r/\(∀ k,r.flatten.count k=(aW W o.kill).count k+((bE t ps).map W.β).count k)/\(∀ z∈o.frz,aB st z)/\(∀ z∈o.kill,aB st z)/\∀ b∈bE t ps,live st b
 |[],x,vs,a4,t,o,⟨e1,e2⟩,y,_,_,_,G,hG=>by
  simp only[hX,BA]at y;subst y;subst e1;exact⟨[],trivial,λk=>by simp[aW,bE],by simp,by simp,by simp[bE]⟩
 |pk::ps,x,vs,a4,t,o,⟨v,X,b,a0,e1,e2,h1,h2⟩,y,ht,a1,a2,G,hG=>by
  subst e1;subst e2;simp only[B4]at ht;have u:∀ (o':cK (ah ps)),hX st (t+1) ps=some o'->d8 t (pk::ps) (v::X)=d8 (t+1) ps X->d7 t (pk::ps) (v::X)=d7 (t+1) ps X->(∀ k,bi V W o'.p o'.frz k->G k) ->
    ∃ r,bK w G ps o'.val X r/\(∀ k,r.flatten.count k=(aW W o'.kill).count k+((bE (t+1) ps).map W.β).count k)/\(∀ z∈o'.frz,aB st z)/\(∀ z∈o'.kill,aB st z)/\∀ b∈bE (t+1) ps,live st b:=by
   intro o' b1 e1 e2 ad;exact mu hV h a6 ps x.2 X a0 (t+1) o' h2 b1 (by omega) (λz H=>a1 z (by rw[e1];exact H)) (λz H=>a2 z (by rw[e2];exact H)) ad
  cases pk with
  |io b =>
   simp only[hX]at y;split at y
   ·rename_i y1 y2 Z a9;simp only[BA]at y;subst y;obtain⟨r,J,O,I,M,Y⟩:=mu hV h a6 ps x.2 X a0 (t+1) y2 h2 a9 (by omega) (λz H=>a1 z (BF _ H)) (λz H=>a2 z H) (λk hk=>hG k (dP.2 k hk));cases hb:decide ((au st (.tmp t)).1=bf b.isAgg) with
    |false=>rw[hb]at Z;cases Z
    |true =>
     rw[hb]at Z;simp only[cond_true]at Z;obtain⟨cs,h3,h4⟩:=cS h (.tmp t);rw[of_decide_eq_true hb]at h3;have hv:a.eval (.tmp t)=v:=a1 (t,v) (BG ..);rw[hv]at h3;obtain⟨g1,g2,g3⟩:=dN (pos:=0) h h4 Z;refine⟨aW W y1.kill::r,⟨?_,J⟩,λk=>?_,λz H=>(BB.1 H).elim (g2 z) (I z),λz H=>(BB.1 H).elim (g3 z) (M z),Y⟩
     ·unfold jn;rw[if_neg (by simp)];exact⟨cs,gx h3,g1.mono (λk hk=>hG k (dP.1 k hk))⟩
     ·rw[BQ,BU,O k,dH,BU];show _=_+((bE (t+1) ps).map W.β).count k;omega
   ·cases y
  |iop b =>
   simp only[hX]at y;split at y
   ·rename_i y1 y2 Z a9;simp only[BA]at y;subst y;obtain⟨r,J,O,I,M,Y⟩:=mu hV h a6 ps x.2 X a0 (t+1) y2 h2 a9 (by omega) (λz H=>a1 z (BF _ H)) (λz H=>a2 z (BF _ H)) (λk hk=>hG k (dP.2 k hk));obtain⟨g,c,E,b0,hv,_,_,_⟩:=h1;subst hv;obtain⟨a3,hβ⟩:=a2 (B0+t,tN (.pointer (some ⟨g,0,none⟩))) (BG ..);have hβ:W.β (B0+t)=g:=hβ;obtain⟨g1,g2,g3⟩:=dN (pos:=0) h (iw h (B0+t)) Z;rcases h.boxes (B0+t) a3.1 with ⟨h8,_⟩|⟨_,E',h8⟩
    ·have:=a3.2;rw[h8]at this;cases this
    ·refine⟨(g::aW W y1.kill)::r,⟨?_,J⟩,λk=>?_,λz H=>(BB.1 H).elim (g2 z) (I z),λz H=>(BB.1 H).elim (g3 z) (M z),λb' a5=>?_⟩
     ·unfold jn;rw[if_pos rfl];exact⟨g,W.cs (B0+t),E',_,rfl,by rw[<- hβ];exact h8,g1.mono (λk hk=>hG k (dP.1 k hk)),rfl⟩
     ·rw[BQ,BU,O k,dH,BU,CH];show _=_+(W.β (B0+t)::(bE (t+1) ps).map W.β).count k;rw[CH,hβ];omega
     ·rcases BO.1 a5 with rfl|a5
      ·exact a3
      ·exact Y b' a5
   ·cases y
  |rd b =>
   obtain⟨r,J,O,I,M,Y⟩:=u o y rfl rfl hG;exact⟨[]::r,⟨rfl,J⟩,λk=>by rw[BQ,Bu];exact O k,I,M,Y⟩
  |own b =>
   obtain⟨r,J,O,I,M,Y⟩:=u o y rfl rfl hG;exact⟨[]::r,⟨rfl,J⟩,λk=>by rw[BQ,Bu];exact O k,I,M,Y⟩
  |rref b =>
   obtain⟨r,J,O,I,M,Y⟩:=u o y rfl rfl hG;exact⟨[]::r,⟨rfl,J⟩,λk=>by rw[BQ,Bu];exact O k,I,M,Y⟩
  |rref2 b =>
   obtain⟨r,J,O,I,M,Y⟩:=u o y rfl rfl hG;exact⟨[]::r,⟨rfl,J⟩,λk=>by rw[BQ,Bu];exact O k,I,M,Y⟩
  |fn As B =>
   obtain⟨r,J,O,I,M,Y⟩:=u o y rfl rfl hG;exact⟨[]::r,⟨rfl,J⟩,λk=>by rw[BQ,Bu];exact O k,I,M,Y⟩
  |clo f cs =>
   obtain⟨r,J,O,I,M,Y⟩:=u o y rfl rfl hG;exact⟨[]::r,⟨rfl,J⟩,λk=>by rw[BQ,Bu];exact O k,I,M,Y⟩
  |hol b c off =>
   obtain⟨r,J,O,I,M,Y⟩:=u o y rfl rfl hG;exact⟨[]::r,⟨rfl,J⟩,λk=>by rw[BQ,Bu];exact O k,I,M,Y⟩
end
section
variable {P:Program} {Γ:List Ctr} {T:TypeId->TI} {w:World} {ro:Nat->Prop}
theorem uy {fn:Func}{a:Act}{w:World}{r:List Value}(h:nz P a w fn.results.toList r):(results fn a.tmps).run P w=.ok (if h:r.toArray.size=1 then r.toArray[0] else .tuple r.toArray) w:=by
 have y:=rI _ _ h;have e:results fn a.tmps=(fn.results.mapM (ny a) >>= λu=>pure (if h:u.size=1 then u[0] else .tuple u)):=by
  unfold results;congr 1
 have z:(fn.results.mapM (ny a)).run P w=.ok r.toArray w:=by
  rw[Array.mapM_eq_mapM_toList];simp[y]
 rw[e];simp only[CC,z,B6,Cl]
theorem Bi (us:List Value):sb us (if h:us.toArray.size=1 then us.toArray[0] else .tuple us.toArray):=by
 match us with
 |[]=>rfl
 |[u]=>rfl
 |u::r::us =>
  rw[dif_neg (by simp)];rfl
theorem rJ:∀ (ps:List PK) (t:Nat),(bE t ps).Nodup/\∀ b∈bE t ps,B0+t<=b
 |[],t=>⟨CM,by simp[bE]⟩
 |I::ps,t=>by
  obtain⟨u,y⟩:=rJ ps (t+1);have z:∀ b∈bE (t+1) ps,B0+t<=b:=λb r=>by have:=y b r;omega
  cases I with
  |iop a =>
   refine⟨Bw.2 ⟨λH=>?_,u⟩,λb r=>?_⟩
   ·have:=y _ H;omega
   ·rcases BO.1 r with rfl|r
    ·exact CY _
    ·exact z b r
  |_=>exact⟨u,z⟩
theorem Bj {u:List RK}(h:ql u=true):u.countP RK.isBox<=1:=by
 unfold ql at h;split at h
 ·simp[RK.isBox]
 ·rw[Cd.2]
  ·exact Cr _
  ·intro r y;rw[BX]at h;have:=h r y;cases r <;> simp[RK.isV,RK.isBox]at this ⊢
theorem rK {β:Nat->Nat}:∀ {bs:List Nat},bs.Nodup->(∀ b∈bs,∀ u∈bs,β b=β u->b=u)->(bs.map β).Nodup
 |[],_,_=>CM
 |b::bs,z,H=>by
  rw[Bw]at z;rw[BY,Bw];refine⟨λI=>?_,rK z.2 (λx J y M=>H x (BF _ J) y (BF _ M))⟩;obtain⟨u,r,e⟩:=BL.1 I;have:=H u (BF _ r) b (BG ..) e;exact z.1 (by rw[<- this];exact r)
theorem xS (hT:TOk P T){c:Ctr}(c2:ql c.rs=true){vs:List Value}{I:List (List Nat)}{fn:Func}{nt:Nat}(hV:ax (fZ w ro c.ps vs I nt)){x:ab c.ps}{pr:Nat->Prop}(b4:c7 P w ro pr c.ps x vs I)(c3:c.ps.length<=nt){ex:Ex}{s1:St}{y:ai c.rs×ah c.ps}
  (r:db T c.ps c.rs c.fresh fn.results.toList ex s1=some y) {a:Act} {w':World} (u:Rel P (fZ w ro c.ps vs I nt) s1 a w') :
  (ex=.normal\/ex=.ret)/\∃ v,(results fn a.tmps).run P w'=.ok v w'/\tr c w ro vs I y (.returned v) w':=by
 obtain⟨W,u⟩:=u;have b9:ex=.normal\/ex=.ret:=by
  cases ex with
  |normal=>exact .inl rfl
  |ret=>exact .inr rfl
  |exit id=>cases r
 refine⟨b9,?_⟩;have r:finR T c.ps c.rs c.fresh fn.results.toList s1=some y:=by
  rcases b9 with rfl|rfl <;> exact r
 unfold finR at r;split at r
 ·rename_i O M bn c1;cases X:aX (O.kill++M.kill)&&dC (O.frz++M.frz) (O.kill++M.kill)&&(!c.fresh||!(O.p||M.p)) with
  |false=>rw[X]at r;cases r
  |true =>
   rw[X]at r;simp only[cond_true,BA]at r;subst r;simp only[BC]at X;obtain⟨⟨b6,bl⟩,bb⟩:=X;let N:Nat->Prop:=λk=>W.nw k\/∃ z∈O.frz++M.frz,k∈W.bs z.1 z.2
   have hG:∀ (p:Bool) (b1:List (Nat×Nat)),(p=true->(O.p||M.p)=true)->(∀ z∈b1,z∈O.frz++M.frz)->∀ k,bi (fZ w ro c.ps vs I nt) W p b1 k->N k\/(c.fresh=false/\ro k):=by
    intro p b1 hp H k J;rcases J with (J|⟨hq,J⟩)|⟨z,Z,J⟩
    ·exact .inl (.inl J)
    ·refine .inr ⟨?_,J⟩;rw[hp hq]at bb;simpa using bb
    ·exact .inl (.inr ⟨z,H z Z,J⟩)
   obtain⟨us,a6,bx,r1,r2,r3,r4,r5,r6,r7⟩:=tP hV hT u rfl c.rs fn.results.toList O bn (G:=λk=>N k\/(c.fresh=false/\ro k)) (hG O.p O.frz (by intro h;simp[h]) (λz H=>BD _ H));obtain⟨b3,o1,o2,o3,o4,o5⟩:=mu hV u hV.nt c.ps x vs I 0 M b4 c1 (by rw[B8];exact c3) (λz H=>u.fixt z H) (λz H=>u.fixb z H) (G:=λk=>N k\/(c.fresh=false/\ro k)) (hG M.p M.frz (by intro h;simp[h]) (λz H=>BE _ H));have a0:∀ z∈O.kill++M.kill,aB s1 z:=λz H=>(BB.1 H).elim (r7 z) (o4 z)
   have a3:∀ z∈O.frz++M.frz,aB s1 z:=λz H=>(BB.1 H).elim (r6 z) (o3 z)
   have a4:∀ k,k<w'.heap.size->¬ (fZ w ro c.ps vs I nt).prot k->pY w w' I.flatten k:=by
    intro k J hp;refine⟨J,?_⟩;by_cases c5:k<w.heap.size
    ·right;apply Bq;intro hn;exact hp ⟨c5,hn⟩
    ·exact .inl (by omega)
   have c4:∀ k,N k->pY w w' I.flatten k:=by
    rintro k (J|⟨z,H,J⟩)
    ·exact a4 k (u.nwlt k J).1 (u.nwlt k J).2
    ·obtain⟨l,h7,h8⟩:=a3 z H;exact a4 k (u.own_lt h7 h8 k J) (u.ownb z.1 z.2 l h7 h8 k J).2.1
   have Y:∀ b∈bx++bE 0 c.ps,live s1 b:=λb R=>(BB.1 R).elim (λR=>(r4 b R).1) (o5 b)
   have ba:(bx++bE 0 c.ps).Nodup:=by
    rw[B5];refine⟨?_,(rJ c.ps 0).1,λb R b' b0 e=>?_⟩
    ·have:=Bj c2;rw[<- r5]at this
     match bx,this with
     |[],_=>exact CM
     |[b],_=>simp
    ·subst e;have:=CO.1 (r4 b R).2 b b0;simp at this
   have b5:=rK (β:=W.β) ba (λb R b' b0 e=>u.inj b b' (Y b R) (Y b' b0) e);have a5:∀ k,(b3.flatten++a6.flatten).count k=(aW W (O.kill++M.kill)).count k+((bx++bE 0 c.ps).map W.β).count k:=λk=>by
    rw[BU,o2 k,r3 k,dH,BU,CG,BU];omega
   have c0:=bq.1 (gL u b6 a0);have ad:∀ k∈b3.flatten++a6.flatten,(∃ z∈O.kill++M.kill,k∈W.bs z.1 z.2)\/∃ b,live s1 b/\W.β b=k:=λk J=>by
    have h5:=BW.2 J;rw[a5 k]at h5;by_cases h6:k∈aW W (O.kill++M.kill)
    ·exact .inl (gh.1 h6)
    ·have:=CN.2 h6;obtain⟨b,R,e⟩:=BL.1 (BW.1 (show 0<((bx++bE 0 c.ps).map W.β).count k by omega));exact .inr ⟨b,Y b R,e⟩
   refine⟨_,uy r1,_,us,N,b3,a6,rfl,Bi us,u.size,u.os,u.tape,u.output,λk h1 h2=>u.keep k ⟨h1,h2⟩,c4,o1,r2,bq.2 λk=>?_,λk J=>?_⟩
   ·rw[a5 k];have h5:=c0 k;have h6:=bq.1 b5 k;by_cases h7:k∈(bx++bE 0 c.ps).map W.β
    ·have:(aW W (O.kill++M.kill)).count k=0:=CN.2 λhm=>by
      obtain⟨b,R,e⟩:=BL.1 h7;obtain⟨z,H,a2⟩:=gh.1 hm;obtain⟨l,hl,ho⟩:=a0 z H;exact (u.ownb z.1 z.2 l hl ho k a2).2.2 b (Y b R) e
     omega
    ·have:=CN.2 h7;omega
   ·rcases ad k J with ⟨z,H,a2⟩|⟨b,R,e⟩
    ·obtain⟨l,hl,ho⟩:=a0 z H;have h9:=u.ownb z.1 z.2 l hl ho k a2;refine⟨a4 k (u.own_lt hl ho k a2) h9.2.1,?_⟩;rintro (hn|⟨z',Z,a1⟩)
     ·exact h9.1 hn
     ·obtain⟨l',a9,b2⟩:=a3 z' Z;obtain⟨e1,e2⟩:=u.sep z.1 z.2 l z'.1 z'.2 l' hl ho a9 b2 k a2 a1;exact nE bl z' Z (by rw[show z'=z from Prod.ext e1.symm e2.symm];exact H)
    ·subst e;have h9:=u.box b R;refine⟨a4 _ (u.box_lt R) h9.2,?_⟩;rintro (hn|⟨z',Z,a1⟩)
     ·exact h9.1 hn
     ·obtain⟨l',a9,b2⟩:=a3 z' Z;exact (u.ownb z'.1 z'.2 l' a9 b2 _ a1).2.2 b R rfl
 ·cases r
theorem jY:∀ {ps:List PK} {u:List Value} {t:Nat} {z:Nat×Value},z∈d8 t ps u->z.1∈gf t ps
 |[],_,_,_,h=>by simp[d8]at h
 |r::ps,[],_,_,h=>by cases r <;> simp[d8]at h
 |r::ps,v::u,t,z,h=>by
  cases r <;> simp only[d8,gf,BO]at h ⊢ <;> first
   |exact jY h
   |exact h.imp (λe=>by rw[e]) jY
theorem jZ:∀ {ps:List PK} {u:List Value} {t:Nat} {z:Nat×Nat},z∈d7 t ps u->z.1∈bE t ps
 |[],_,_,_,h=>by simp[d7]at h
 |r::ps,[],_,_,h=>by cases r <;> simp[d7]at h
 |r::ps,v::u,t,z,h=>by
  cases r <;> simp only[d7,bE,BO]at h ⊢ <;> first
   |exact jZ h
   |exact h.imp (λe=>by rw[e]) jZ
theorem dm {f:FuncId}{fn:Func}{c:Code}(y:P.funcs[f]?=some fn)(H:(fn.name== "runtime.NumGoroutine")=false) (z:fn.body=some c):fO P f:=by
 intro u w;have r:fn.name≠ "runtime.NumGoroutine" := by simpa using H
 simp[callFunc,y,r,z]
theorem pg (hT:TOk P T)(hΓ:∀ c∈Γ,bO P c)(X:P.follows .mixedOrders=true){c:Ctr}{fn:Func}(hf:P.funcs[c.f]?=some fn)(hn:(fn.name== "runtime.NumGoroutine")=false)
  {L:List (Nat×List (Nat×List Coe))} {R:Nat} (M:fn.body.isSome=true) (a0:∀ x,evF Γ T L R fn c.ps c.rs c.fresh x=c.den x):bO P c:=by
 obtain⟨H,M⟩:=Option.isSome_iff_exists.1 M;refine⟨dm hf hn M,λw ro x vs a2 y u a5 a3 J=>?_⟩;rw[<- a0]at J;unfold evF at J;simp only[M]at J;cases r:dO fn.ntmps (gf 0 c.ps) H&&Ca c.ps.length fn.ntmps&&Ca fn.ntmps GH&&ql c.rs&&dn L (bE 0 c.ps) H with
 |false=>simp[r]at J
 |true =>
  simp only[r,cond_true]at J;simp only[BC]at r;obtain⟨⟨⟨⟨h1,h2⟩,h3⟩,h4⟩,h5⟩:=r;have h2:=Br h2;have h3:=Br h3;have hV:ax (fZ w ro c.ps vs a2 fn.ntmps):=⟨λk hk=>a5 k hk,h3⟩;have Y:=vh (P:=P) (ro:=ro) u a3 h2 h3;refine calls_of_wp hf M ?_;rw[Cm];refine se hV hT hΓ X (λz hz=>jZ hz) (nt:=fn.ntmps) (fix:=gf 0 c.ps) rfl (λz hz=>jY hz) H h1 h5 _ _ y _ J (λex s1 Z a' w' hr=>?_) _ _ Y;obtain⟨a4,v,O,I⟩:=xS hT h4 hV u h2 Z hr;have a1:a'.defers=[]:=by obtain⟨W,hr⟩:=hr;exact hr.df
  rcases a4 with rfl|rfl <;> exact⟨a1,v,O,I⟩
end
section
variable {P:Program}
def szB (P:Program)(t:TypeId)(n:Nat):Bool :=
 match P.info? t with
 |some i=>BJ i.size n
 |none=>false
theorem fJ {t:TypeId}{n:Nat}(h:szB P t n=true):bP P t n:=by
 unfold szB at h;unfold bP;split at h
 ·rename_i i r;rw[r];simp only[Bo];rw[BH h]
 ·cases h
def tQ (P:Program)(t:TypeId)(agg:Bool):Bool :=
 match P.underlying t with
 |some (.struct _)|some (.array _ _)=>agg
 |some _=>!agg
 |none=>false
theorem qM {t:TypeId}{agg:Bool}(h:tQ P t agg=true):(P.underlying t).map (λd=>match d with|.struct _|.array _ _=>true|_=>false)=some agg:=by
 unfold tQ at h;split at h
 ·rename_i r;rw[r];simp[h]
 ·rename_i r;rw[r];simp[h]
 ·rename_i d u y r;rw[r];simp only[Bo,BA];cases agg with
  |true=>cases h
  |false =>
   cases d <;> first|rfl|(exact absurd r (u _))|(exact absurd r (y _ _))
 ·cases h
theorem Ap {t:TypeId}{agg:Bool}(h:(P.underlying t).map (λd=>match d with|.struct _|.array _ _=>true|_=>false)=some agg)(w:World):(isAgg t).run P w=.ok agg w:=by
 unfold isAgg;cases r:P.underlying t with
 |none=>simp[r]at h
 |some u =>
  rw[r]at h;simp only[Bo,BA]at h;subst h;rw[CC,run_underlying r w];cases u <;> rfl
def lB (P:Program)(f:Field)(off:Nat)(b:Ty):Bool:=(f.name != "_")&&BJ f.offset off&&szB P f.type b.cells&&tQ P f.type b.isAgg
def eqF (P:Program)(g:Ty->TypeId->Bool):List Field->Nat->Ty->Bool
 |[],_,_=>false
 |[f],off,b=>lB P f off b&&g b f.type
 |f::r,off,.pair b c=>lB P f off b&&g b f.type&&eqF P g r (off+b.cells) c
 |_,_,_=>false
def eqT (P:Program):Nat->Ty->TypeId->Bool
 |0,_,_=>false
 |n+1,a,t=>match a with
  |.int k=>(match P.underlying t with|some (.int k')=>decide (k'=k)|_=>false)
  |.bool=>(match P.underlying t with|some .bool=>true|_=>false)
  |.str=>(match P.underlying t with|some .string=>true|_=>false)
  |.pair b c=>(match P.underlying t with|some (.struct fs)=>!P.stoodInHeld t&&eqF P (eqT P n) fs.toList 0 (.pair b c)|_=>false)
  |_=>false
theorem yZ:∀ (b:Ty),b.isAgg=false->b.cells=1
 |.int _,_=>rfl
 |.bool,_=>rfl
 |.str,_=>rfl
 |.list _ _ _,_=>rfl
 |.hdr,_=>rfl
 |.unit,h=>by cases h
 |.pair _ _,h=>by cases h
theorem mv {f:Field}{off:Nat}{b:Ty}(h:lB P f off b=true){xs p c s:List Value}(J:xs=p++c++s)(M:p.length=off)(I:c.length=b.cells)(w:World) :
  ∃ v,(part f.type xs.toArray f.offset).run P w=.ok v w/\c9 b.isAgg v c:=by
 unfold lB at h;simp only[BC]at h;obtain⟨⟨⟨_,y⟩,O⟩,R⟩:=h;have y:=BH y;have r:=Ap (qM R) w;have H:=dt (fJ O) w;have u:(xs.drop off).take b.cells=c:=by
  rw[J,Bs,<- M,List.drop_left,<- I,List.take_left]
 cases z:b.isAgg with
 |true =>
  rw[z]at r;refine⟨.agg c.toArray,?_,rfl⟩;have e:xs.toArray.extract off (off+b.cells)=c.toArray:=by
   rw[List.extract_toArray,List.extract_eq_take_drop,Nat.add_sub_cancel_left,u]
  simp only[part,CC,r,B6,if_true,H,Cl,y,e]
 |false =>
  rw[z]at r;have X:=yZ b z;rw[X]at I
  match c,I with
  |[v],_ =>
   refine⟨v,?_,rfl⟩;have e:xs.toArray[off]?=some v:=by
    simp only[List.getElem?_toArray];rw[J,Bs,BZ (by omega)];simp[M]
   simp only[part,CC,r,B6,CI,if_false,y,e,Cl]
def zr (P:Program)(d:Nat)(b:Ty)(t:TypeId):Prop:=∀ (w:World) (G:Nat->Prop) (x y:b.den) (r z:Value) (H u:List Value),c9 b.isAgg r H->Rd w G b x H->c9 b.isAgg z u->Rd w G b y u ->
 (Op.equalIn d t r z).run P w=.ok (b.eqv x y) w
theorem xT {d:Nat}{g:Ty->TypeId->Bool}(hg:∀ b t,g b t=true->zr P d b t):∀ (fs:List Field) (off:Nat) (b:Ty),eqF P g fs off b=true->∀ (w:World) (G:Nat->Prop) (x y:b.den) (H I z M:List Value),
  H.length=off->z.length=off->Rd w G b x I->Rd w G b y M->(Op.eqFields d (H++I).toArray (z++M).toArray fs).run P w=.ok (b.eqv x y) w
 |[],_,_,h=>by simp[eqF]at h
 |[f],off,b,h=>by
  intro w G x y H I z M r u hx hy;simp only[eqF,BC]at h;obtain⟨v1,h1,h2⟩:=mv h.1 (xs:=H++I) (p:=H) (c:=I) (s:=[]) (by simp) r hx.len w;obtain⟨v2,h3,h4⟩:=mv h.1 (xs:=z++M) (p:=z) (c:=M) (s:=[]) (by simp) u hy.len w;have h5:=hg b f.type h.2 w G x y v1 v2 I M h2 hx h4 hy;have hn:f.name≠ "_" := by
   have:=h.1;unfold lB at this;simp only[BC]at this;simpa using this.1.1.1
  simp only[Op.eqFields,if_pos hn,CC,h1,h3,h5,B6];cases b.eqv x y <;> simp
 |f::R::fs,off,.pair b c,h=>by
  intro w G x y H I z M r u hx hy;simp only[eqF,BC]at h;obtain⟨⟨Y,a1⟩,O⟩:=h;obtain⟨Z,c2,rfl,J,a0⟩:=hx;obtain⟨d1,d2,rfl,X,a2⟩:=hy;obtain⟨v1,h1,h2⟩:=mv Y (xs:=H++(Z++c2)) (p:=H) (c:=Z) (s:=c2) (by simp) r J.len w;obtain⟨v2,h3,h4⟩:=mv Y (xs:=z++(d1++d2)) (p:=z) (c:=d1) (s:=d2) (by simp) u X.len w;have h5:=hg b f.type a1 w G x.1 y.1 v1 v2 Z d1 h2 J h4 X;have h6:=xT hg (R::fs) (off+b.cells) c O w G x.2 y.2 (H++Z) c2 (z++d1) d2 (by simp[r,J.len]) (by simp[u,X.len]) a0 a2;rw[Bs,Bs]at h6;have hn:f.name≠ "_" := by
   unfold lB at Y;simp only[BC]at Y;simpa using Y.1.1.1
  rw[Op.eqFields];simp only[if_pos hn,CC,h1,h3,h5,B6];show _=Result.ok (b.eqv x.1 y.1&&c.eqv x.2 y.2) w;cases b.eqv x.1 y.1 with
  |false=>simp
  |true=>simpa using h6
 |f::R::fs,off,.int _,h=>by simp[eqF]at h
 |f::R::fs,off,.bool,h=>by simp[eqF]at h
 |f::R::fs,off,.str,h=>by simp[eqF]at h
 |f::R::fs,off,.unit,h=>by simp[eqF]at h
 |f::R::fs,off,.list _ _ _,h=>by simp[eqF]at h
 |f::R::fs,off,.hdr,h=>by simp[eqF]at h
theorem rL (x y:ByteArray):(x==y)=decide (x=y):=by
 rw[beq_toListBytes];by_cases h:x=y
 ·subst h;simp
 ·rw[decide_eq_false h];cases r:(x.toList==y.toList) with
  |false=>rfl
  |true =>
   exfalso;apply h;have:=eq_of_beq r;rw[Ce,Ce]at this;apply ByteArray.ext;exact Array.ext' this
theorem xU:∀ (n:Nat) (a:Ty) (t:TypeId),eqT P n a t=true->∀ d,n<=d->zr P d a t
 |0,_,_,h=>by simp[eqT]at h
 |n+1,a,t,h=>by
  intro d hd;obtain⟨d,rfl⟩:∃ d',d=d'+1:=⟨d-1,by omega⟩;intro w G x y R O J M u H r z;cases a with
  |int k =>
   simp only[eqT]at h;split at h
   ·rename_i X I;have hk:=of_decide_eq_true h;subst hk;have H:J=[.int X x]:=H;have z:M=[.int X y]:=z;have u:J=[R]:=u;have r:M=[O]:=r;rw[H]at u;rw[z]at r;simp at u r;subst u;subst r;simp[Op.equalIn,run_underlying I,Ty.eqv];rfl
   ·cases h
  |bool =>
   simp only[eqT]at h;split at h
   ·rename_i I;have H:J=[.bool x]:=H;have z:M=[.bool y]:=z;have u:J=[R]:=u;have r:M=[O]:=r;rw[H]at u;rw[z]at r;simp at u r;subst u;subst r;simp[Op.equalIn,run_underlying I,Ty.eqv]
   ·cases h
  |str =>
   simp only[eqT]at h;split at h
   ·rename_i I;have H:J=[.string x]:=H;have z:M=[.string y]:=z;have u:J=[R]:=u;have r:M=[O]:=r;rw[H]at u;rw[z]at r;simp at u r;subst u;subst r;have:=rL x y;simp[Op.equalIn,run_underlying I,Ty.eqv,this]
   ·cases h
  |pair b c =>
   simp only[eqT]at h;split at h
   ·rename_i Z I;simp only[BC,Bz]at h;have Y:P.fieldsOf t=Z:=by simp[Program.fieldsOf,I]
    have u:R=.agg J.toArray:=u;have r:O=.agg M.toArray:=r;subst u;subst r;rw[run_equalIn_struct (P:=P) w d t _ _ (by rw[Y];exact I) h.1,Y];have:=xT (P:=P) (λb t hb=>xU n b t hb d (by omega)) Z.toList 0 (.pair b c) h.2 w G x y [] J [] M rfl rfl H z;simpa using this
   ·cases h
  |unit=>simp[eqT]at h
  |hdr=>simp[eqT]at h
  |list m E e=>simp[eqT]at h
theorem Aq {t:TypeId}{a:Ty}(h:eqT P 64 a t=true)(z:a.isAgg=true):EqAt P t a:=by
 intro _ w G x y u r I H;have:=xU 64 a t h Op.maxDepth (by decide) w G x y (.agg u.toArray) (.agg r.toArray) u r (by rw[z];rfl) I (by rw[z];rfl) H;exact this
def wz:Value->Value->Bool
 |.int k n,.int u z=>decide (k=u)&&decide (n=z)
 |.bool b,.bool y=>b==y
 |.string s,.string r=>decide (s.toList=r.toList)
 |.slice none 0 0,.slice none 0 0=>true
 |.pointer none,.pointer none=>true
 |.nilFunc,.nilFunc=>true
 |_,_=>false
def kM:List Value->List Value->Bool
 |[],[]=>true
 |v::r,u::y=>wz v u&&kM r y
 |_,_=>false
theorem za {v u:Value}(h:wz v u=true):v=u:=by
 unfold wz at h;split at h
 ·simp only[BC,decide_eq_true_eq]at h;rw[h.1,h.2]
 ·rw[eq_of_beq h]
 ·rename_i s y;have:s=y:=by
   have r:=rL s y;rw[beq_toListBytes,of_decide_eq_true h]at r;simpa using r.symm
  rw[this]
 ·rfl
 ·rfl
 ·rfl
 ·cases h
theorem mw:∀ {r us:List Value},kM r us=true->r=us
 |[],[],_=>rfl
 |v::r,u::us,h=>by
  simp only[kM,BC]at h;rw[za h.1,mw h.2]
 |[],_::_,h=>by simp[kM]at h
 |_::_,[],h=>by simp[kM]at h
def zB (P:Program)(t:TypeId)(agg:Bool)(cs:List Value):Bool :=
 match P.info? t with
 |some i=>match i.zero with
  |some (.agg r)=>agg&&kM r.toList cs
  |some v=>!agg&&kM [v] cs
  |none=>false
 |none=>false
theorem xV {t:TypeId}{cs:List Value}(h:zB P t true cs=true):d4 P t (.agg cs.toArray):=by
 unfold zB at h;unfold d4;split at h
 ·rename_i i u;rw[u];split at h
  ·rename_i y r;simp only[Cg]at h;rw[Bo,r,<- mw h,Array.toArray_toList]
  ·cases h
  ·cases h
 ·cases h
theorem lC {t:TypeId}{v:Value}(h:zB P t false [v]=true):d4 P t v:=by
 unfold zB at h;unfold d4;split at h
 ·rename_i i y;rw[y];split at h
  ·cases h
  ·rename_i u _ r;simp only[Cw,Cg]at h;have:=mw h;simp only[CU,and_true]at this;rw[Bo,r,this]
  ·cases h
 ·cases h
def kc (P:Program)(n:Nat):List Field->List (Nat×Nat×Bool)->Bool
 |[],[]=>true
 |f::u,(off,k,agg)::r=>BJ f.offset off&&szB P f.type k&&tQ P f.type agg&&CT 0 k&&Ca (off+k) n&&(agg||BJ k 1)&&kc P n u r
 |_,_=>false
def isU8:Ty->Bool
 |.int .u8=>true
 |_=>false
def u8B (P:Program)(E:TypeId):Bool :=
 match P.underlying E with
 |some (.int .u8)=>true
 |_=>false
def tiB (P:Program)(t:TypeId):TI->Bool
 |.int k=>(match P.underlying t with|some (.int k')=>decide (k'=k)|_=>false)&&szB P t 1&&zB P t false [.int k 0]
 |.bool=>(match P.underlying t with|some .bool=>true|_=>false)&&szB P t 1&&zB P t false [.bool false]
 |.str=>(match P.underlying t with|some .string=>true|_=>false)&&szB P t 1&&zB P t false [.string ByteArray.empty]
 |.slice E e r=>(match P.underlying t with|some (.slice E')=>BJ E' E|_=>false)&&szB P t 1&&zB P t false [.slice none 0 0]&&CT 0 e.cells&&CT 0 r &&
  szB P E e.cells&&(match P.info? E with | some i=>BJ i.bytes r&&(match i.zero with | some z=>kM z.cells.toList (zeroCells e) | none=>false) | none=>false)&&(!isU8 e||u8B P E)
 |.arr e n=>(match P.underlying t with|some (.array m E)=>BJ m n&&szB P E e.cells&&tQ P E e.isAgg|_=>false)&&CT 0 e.cells&&szB P t (n*e.cells)&&zB P t true (List.replicate n (zeroCells e)).flatten
 |.struct a u=>(match P.underlying t with | some (.struct y)=>kc P a.cells y.toList u | _=>false)&&szB P t a.cells&&zB P t true (zeroCells a)&&a.isAgg&&(!a.flat||eqT P 64 a t)&&!P.eqGuardType P.depth t
 |.ptr=>(match P.underlying t with|some (.pointer _)=>true|_=>false)&&szB P t 1&&zB P t false [.pointer none]
 |.fn=>(match P.underlying t with|some (.func _ _ _)=>true|_=>false)&&szB P t 1&&zB P t false [.nilFunc]
 |.none=>true
theorem qg {n:Nat}:∀ {fs:List Field} {xs:List (Nat×Nat×Bool)},kc P n fs xs=true ->
  fs.mapM (λf=>(P.info? f.type).map λi=>(f.offset,i.size))=some (xs.map λx=>(x.1,x.2.1)) /\
  ∀ (i off k:Nat) (agg:Bool),xs[i]?=some (off,k,agg)->(agg=false->k=1)/\∃ f:Field,fs[i]?=some f/\f.offset=off/\0<k/\off+k<=n/\bP P f.type k /\
   (P.underlying f.type).map (λd=>match d with|.struct _|.array _ _=>true|_=>false)=some agg
 |[],[],_=>⟨rfl,λi off k agg h=>by simp at h⟩
 |[],_::_,h=>by simp[kc]at h
 |_::_,[],h=>by simp[kc]at h
 |f::fs,(off,k,agg)::xs,h=>by
  simp only[kc,BC,CF]at h;obtain⟨⟨⟨⟨⟨⟨H,X⟩,O⟩,Y⟩,R⟩,u⟩,Z⟩:=h;have H:=BH H;have r:=fJ X;obtain⟨h8,h9⟩:=qg Z;constructor
  ·unfold bP at r;cases I:P.info? f.type with
   |none=>rw[I]at r;cases r
   |some i =>
    rw[I]at r;simp only[Bo,BA]at r;simp[CZ,I,h8,r,H]
  ·intro i z M y J;cases i with
   |zero =>
    simp at J;obtain⟨rfl,rfl,rfl⟩:=J;refine⟨λha=>?_,f,rfl,H,by simpa[CA]using Y,Br R,r,qM O⟩;rcases u with u|u
    ·rw[ha]at u;cases u
    ·exact BH u
   |succ i =>
    obtain⟨q1,f',q2,q3⟩:=h9 i z M y (by simpa using J);exact⟨q1,f',by simpa using q2,q3⟩
theorem Bk {t:TypeId}{i:TI}(h:tiB P t i=true):oI P t i:=by
 cases i with
 |none=>trivial
 |int k =>
  simp only[tiB,BC]at h;obtain⟨⟨r,I⟩,H⟩:=h;split at r
  ·rename_i k' u;rw[of_decide_eq_true r]at u;exact⟨u,fJ I,lC H⟩
  ·cases r
 |bool =>
  simp only[tiB,BC]at h;obtain⟨⟨r,I⟩,H⟩:=h;split at r
  ·rename_i u;exact⟨u,fJ I,lC H⟩
  ·cases r
 |str =>
  simp only[tiB,BC]at h;obtain⟨⟨r,I⟩,H⟩:=h;split at r
  ·rename_i u;exact⟨u,fJ I,lC H⟩
  ·cases r
 |ptr =>
  simp only[tiB,BC]at h;obtain⟨⟨r,I⟩,H⟩:=h;split at r
  ·rename_i e u;exact⟨⟨e,u⟩,fJ I,lC H⟩
  ·cases r
 |fn =>
  simp only[tiB,BC]at h;obtain⟨⟨r,I⟩,H⟩:=h;split at r
  ·rename_i x y z u;exact⟨⟨x,y,z,u⟩,fJ I,lC H⟩
  ·cases r
 |slice E e a1 =>
  simp only[tiB,BC]at h;obtain⟨⟨⟨⟨⟨⟨⟨r,I⟩,H⟩,Y⟩,M⟩,Z⟩,R⟩,J⟩:=h;have a0:e=.int .u8->P.underlying E=some (.int .u8):=by
   intro he;subst he;have J:u8B P E=true:=by simpa[isU8]using J
   unfold u8B at J;split at J
   ·rename_i hq;exact hq
   ·cases J
  split at r
  ·rename_i E' u;rw[BH r]at u;split at R
   ·rename_i ti X;simp only[BC]at R;obtain⟨h8,h9⟩:=R;split at h9
    ·rename_i z hz;have O:=fJ Z;unfold bP at O;rw[X]at O;simp only[Bo,BA]at O;exact⟨u,fJ I,lC H,by simpa[CA]using Y,⟨by simpa[CA]using M,a0⟩,ti,z,X,O,BH h8,hz,mw h9⟩
    ·cases h9
   ·cases R
  ·cases r
 |arr e n =>
  simp only[tiB,BC]at h;obtain⟨⟨⟨r,I⟩,H⟩,Y⟩:=h;split at r
  ·rename_i m E u;simp only[BC]at r;obtain⟨⟨M,Z⟩,R⟩:=r;rw[BH M]at u;exact⟨⟨E,u,fJ Z,qM R⟩,by simpa[CA]using I,fJ H,xV Y⟩
  ·cases r
 |struct a a2 =>
  simp only[tiB,BC,CF,Bz]at h;obtain⟨⟨⟨⟨⟨r,I⟩,H⟩,Y⟩,M⟩,Z⟩:=h;split at r
  ·rename_i fs u;obtain⟨R,h8⟩:=qg r;refine⟨⟨fs,u,R,λi off n agg hx=>?_⟩,fJ I,xV H,?_,Z⟩
   ·obtain⟨q1,f,q2,q3⟩:=h8 i off n agg hx;exact⟨q1,f,by simpa using q2,q3⟩
   ·intro hf;rcases M with M|M
    ·rw[hf]at M;cases M
    ·exact Aq M Y hf
  ·cases r
def tlB (P:Program):List (TypeId×TI)->Bool
 |[]=>true
 |x::l=>tiB P x.1 x.2&&tlB P l
theorem gY:∀ {l:List (TypeId×TI)},tlB P l=true->TOk P (fW l):=by
 intro l h;refine sq ?_;induction l with
 |nil=>simp
 |cons x l u =>
  simp only[tlB,BC]at h;intro y r;rcases BO.1 r with rfl|r
  ·exact Bk h.1
  ·exact u h.2 y r
end
section
variable {P:Program} {T:TypeId->TI}
theorem nA (hT:TOk P T)(R:P.follows .mixedOrders=true){f:FuncId}{fn:Func}(hf:P.funcs[f]?=some fn)(hn:(fn.name== "runtime.NumGoroutine")=false) {E:TypeId} {e:Ty} {rs:List RK} {r:Bool}
  {O:ab [PK.rd (.list false E e)]->Option (ai rs×ah [PK.rd (.list false E e)])} {R0 A B C:Code} {rid:Nat} {o0 o1:Oper} {d0 q t t':Nat} {x0:Operand} {L:List (Nat×List (Nat×List Coe))} {K:Nat}
  (hb:fn.body=some (.seq R0 (.seq (.seq (.region rid #[o0,o1] false) (.cond (.tmp q) A B)) C))) (b4:o0.guard=none) (d2:o0.op=.move x0) (b9:o1.op=.binOp .eql t (.tmp d0) (.const (.slice none 0 0)) t') (cb:o1.guard=none) (b1:o1.dst=some q)
  {E':TypeId} (ht:P.underlying t=some (.slice E'))
  (a5:(dO fn.ntmps [] (.seq R0 (.seq (.seq (.region rid #[o0,o1] false) (.cond (.tmp q) A B)) C))&&Ca 1 fn.ntmps&&Ca fn.ntmps GH&&ql rs&&dn L [] (.seq R0 (.seq (.seq (.region rid #[o0,o1] false) (.cond (.tmp q) A B)) C)))=true)
  {S1:ab [PK.rd (.list false E e)]->St}
  (b5:∀ x,evK [] T L K R0 (av (di 0 [PK.rd (.list false E e)] x)) (qj (λs _=>act [] T o0 s (λU=>some (ac U s))) (λ_ _=>none))=some (S1 x))
  (M:∀ x,one (S1 x) (.tmp d0)=.ro true E e x.1)
  (hF:∀ x,evK [] T L K (.seq (.cond (.tmp q) A B) C) (ac (ck (S1 x) [] q .one [.bool false]) (S1 x)) (db T [PK.rd (.list false E e)] rs r fn.results.toList)=O x)
  (c1:∀ x y,x.1=[]->O x=some y->evK [] T L K (.seq (.cond (.tmp q) A B) C) (ac (ck (S1 x) [] q .one [.bool true]) (S1 x)) (db T [PK.rd (.list false E e)] rs r fn.results.toList)=some y) :
  bO P ⟨f,[PK.rd (.list false E e)],rs,r,O⟩:=by
 refine⟨dm hf hn hb,λw ro x vs u y Z cx c4 hy=>?_⟩;simp only[BC]at a5;obtain⟨⟨⟨⟨h1,h2⟩,h3⟩,h4⟩,h5⟩:=a5;have h2:=Br h2;have h3:=Br h3;have hV:ax (fZ w ro [PK.rd (.list false E e)] vs u fn.ntmps):=⟨λk hk=>cx k hk,h3⟩;have ba:=vh (P:=P) (ro:=ro) Z c4 h2 h3;have hnoΓ:∀ c∈([]:List Ctr),bO P c:=by simp
 have b2:∀ z∈(fZ w ro [PK.rd (.list false E e)] vs u fn.ntmps).fixb,z.1∈([]:List Nat):=λz hz=>jZ (ps:=[PK.rd (.list false E e)]) hz
 have Y:∀ z∈(fZ w ro [PK.rd (.list false E e)] vs u fn.ntmps).fixt,z.1∈([]:List Nat):=λz hz=>jY (ps:=[PK.rd (.list false E e)]) hz
 simp only[dO,BC]at h1;simp only[dn,BC]at h5;obtain⟨c5,⟨bl,c2⟩,cy⟩:=h1;obtain⟨c3,⟨_,cw⟩,cp⟩:=h5;refine calls_of_wp hf hb ?_;rw[Cm];generalize c6:bodyPost P fn (tr ⟨f,[PK.rd (.list false E e)],rs,r,O⟩ w ro vs u y)=Q;have hQ:∀ ex s1,db T [PK.rd (.list false E e)] rs r fn.results.toList ex s1=some y->∀ a H,Rel P (fZ w ro [PK.rd (.list false E e)] vs u fn.ntmps) s1 a H->Q (exOf ex) a H:=by
  intro ex s1 bn a' H J;obtain⟨cu,v,X,a6⟩:=xS (c:=⟨f,[PK.rd (.list false E e)],rs,r,O⟩) hT h4 hV Z h2 bn J;have c0:a'.defers=[]:=by obtain⟨W,J⟩:=J;exact J.df
  subst c6;rcases cu with rfl|rfl <;> exact⟨c0,v,X,a6⟩
 have b0:∀ (b:Bool),evK [] T L K (.seq (.cond (.tmp q) A B) C) (ac (ck (S1 x) [] q .one [.bool b]) (S1 x)) (db T [PK.rd (.list false E e)] rs r fn.results.toList)=some y ->
   ∀ a H,Rel P (fZ w ro [PK.rd (.list false E e)] vs u fn.ntmps) (ac (ck (S1 x) [] q .one [.bool b]) (S1 x)) a H->(Code.cond (.tmp q) A B).wp P (Exit.then (C.wp P Q) Q) a H:=by
  intro b a9 a H J;refine se hV hT hnoΓ R b2 (nt:=fn.ntmps) (fix:=[]) rfl Y (.cond (.tmp q) A B) (by simp only[dO,BC];exact c2) (by simp only[dn,BC];exact cw) _ _ y _ a9 (λex s1 I a H J=>?_) a H J;cases ex with
  |normal=>exact se hV hT hnoΓ R b2 (nt:=fn.ntmps) (fix:=[]) rfl Y C cy cp s1 _ y Q I hQ a H J
  |exit b3=>exact hQ (.exit b3) s1 I a H J
  |ret=>exact hQ .ret s1 I a H J
 have a3:∀ (i:Nat) (o:Oper),(#[o0,o1]:Array Oper)[i]?=some o->lm fn.ntmps [] #[o0,o1] o=true:=λi o hi=>by
  simp only[BX]at bl;exact bl o (by simpa using CW hi)
 refine wp_seq (se hV hT hnoΓ R b2 (nt:=fn.ntmps) (fix:=[]) rfl Y R0 c5 c3 _ _ (S1 x) _ (b5 x) (λex s0 I a H J=>?_) _ _ ba);cases ex with
 |exit b3=>cases I
 |ret=>cases I
 |normal =>
  have I:act [] T o0 s0 (λU=>some (ac U s0))=some (S1 x):=I;rw[tA]at I;obtain⟨U,hU,I⟩:=Bt.1 I;simp only[BA]at I;refine wp_seq (wp_seq (wp_region ?_));have a2:Cv (#[o0,o1]:Array Oper).size=[0,1]:=rfl;rw[a2,wpOps_cons];refine wu hV hT hnoΓ (ops:=#[o0,o1]) (i:=0) (o:=o0) rfl (mr rfl Y (a3 0 o0 rfl)) (λj d1 hg=>by rw[b4]at hg;cases hg) (U:=U) (by unfold mo;rw[b4];exact hU) J (λa1 w1 a0=>?_);rw[I]at a0;rw[wpOps_cons];obtain⟨W1,a0⟩:=a0;have a4:bM (fZ w ro [PK.rd (.list false E e)] vs u fn.ntmps) o1:=mr rfl Y (a3 1 o1 rfl);obtain⟨h7,_,_,_,_⟩:=bo a0 (.tmp d0) (by rw[M x];simp);rw[M x]at h7;obtain⟨A',bb,hv,_,cc⟩:=h7;have hv:a1.eval (.tmp d0)=.slice A' x.1.length bb:=by simpa using hv
  have bx:A'=none->x.1=[]:=λhA=>by
   cases hx:x.1 with
   |nil=>rfl
   |cons y ys =>
    obtain⟨g,o,b6,_⟩:=cc (by rw[hx];simp);rw[hA]at b6;cases b6
  have a9:evK [] T L K (.seq (.cond (.tmp q) A B) C) (ac (ck (S1 x) [] q .one [.bool A'.isNone]) (S1 x)) (db T [PK.rd (.list false E e)] rs r fn.results.toList)=some y:=by
   cases hA:A' with
   |none=>exact c1 x y (bx hA) hy
   |some ad=>exact (hF x).trans hy
  have X:(execOp a1.eval o1).run P w1=.ok (.value (.bool A'.isNone)) w1:=by
   have:=Lib.run_eql_slice_nil (P:=P) w1 t E' A' x.1.length bb 0 0 ht;have hc:a1.eval (.const (.slice none 0 0))=.slice none 0 0:=rfl;simp[execOp,b9,hv,hc,eqGuard,this]
  unfold wpOp;have hi:(#[o0,o1]:Array Oper)[1]?=some o1:=rfl;simp only[hi];have hw:Region.wanted o1 (yielded #[o0,o1] a1.tmps)=true:=by simp[Region.wanted,cb]
  rw[if_pos hw];refine .inl (dW X ?_);rw[b1];show Exit.then _ _ _ _ _;exact b0 _ a9 _ _ (a0.putLs hV q (a4 q b1).1 (a4 q b1).2 _ .one [.bool A'.isNone] (.bool A'.isNone) [.bool A'.isNone] (B7 _) rfl ⟨⟨rfl,id,rfl⟩,trivial⟩)
end
open Go.ChangeShapes Go.WideShapes
section
variable {H:Type} {enc:TypeId×Value->H} {P:Program}
theorem mA (J:laidOutB P=true){W W':World}{O:Nat->Bool}:∀ {y:List TypeId} {z:List Value} {ds:List (DataW H)} {ps:List MemPlace},(∀ t∈y,P.readableRec t=true/\t<P.types.size) ->
  DataW.TrodAll enc P W 0 (λ_=>true) true y z ds ps->(∀ x∈ps,W.sameAt W' x)->(∀ x∈ps,O x.block=true)->DataW.TrodAll enc P W' 0 O true y z ds ps
 |[],[],[],_,_,h,_,_=>h
 |[],[],_::_,_,_,h,_,_=>h.elim
 |[],_::_,_,_,_,h,_,_=>h.elim
 |_::_,[],_,_,_,h,_,_=>h.elim
 |_::_,_::_,[],_,_,h,_,_=>h.elim
 |t::y,v::z,d::ds,ps,I,⟨p,q,Y,R,e⟩,M,u=>by
  subst e;refine⟨p,q,WideElems.Trod_stays J (I t (BG ..)).1 (I t (BG ..)).2 Y (λx r=>M x (BD _ r)) (λx r=>u x (BD _ r)),
   mA J (λX Z=>I X (BF _ Z)) R (λx r=>M x (BE _ r)) (λx r=>u x (BE _ r)),rfl⟩
theorem rT (hl:laidOutB P=true){f:Func}{s:ChangeSpec}{I O z X:Bool}{W W':World}{J:Array Value}{ds gs:List (DataW H)}{r:List MemPlace}
  (hW:DataW.Whole enc P f.params.toList s.vars I W J.toList ds gs r) (y:s.vars=[]) (hb:Below W.heap.size W W') (Y:∀ t∈f.params.toList,P.readableRec t=true/\t<P.types.size)
  {tb:TypeId} (Z:f.resultTypes=#[tb]) (u:P.underlying tb=some .bool) (a2:(s.fn H (ds++gs)).results=[.lit (.bool true)]) (R:(s.fn H (ds++gs)).args=ds) (a3:(s.fn H (ds++gs)).vars=[]) :
  s.post enc P f I O z X W J (.bool true) W':=by
 have a1:∀ p∈r,p.block<W.heap.size:=λp hp=>by simpa using hW.lt p hp
 have a4:=hW;obtain⟨p,q,hA,hV,e,hz,hn⟩:=hW;rw[y]at hV;obtain⟨rfl,rfl⟩:=trodVars_none hV;simp only[List.append_nil]at e;subst e;have a0:∀ x∈r,W.sameAt W' x:=λx hx=>hb.same (a1 x hx)
 have a6:(Value.bool true).resultList f.resultTypes.size=[.bool true]:=by rw[Z];rfl
 have hr:∀ (b:Nat) (M:Nat->Bool) (hd:Bool),DataW.TrodAll enc P W' b M hd f.resultTypes.toList ((Value.bool true).resultList f.resultTypes.size) (s.fn H (ds++[])).results []:=by
  intro b M hd;rw[a6,a2,Z];exact trodAll_mk1 (shut_bool u true)
 have ha:∀ (M:Nat->Bool),(∀ x∈r,M x.block=true)->DataW.TrodAll enc P W' 0 M true f.params.toList J.toList (s.fn H (ds++[])).args r:=by
  intro M a5;rw[R];exact mA hl Y hA a0 a5
 have hv:∀ (M:Nat->Bool),DataW.TrodVars enc P W' M s.vars (s.fn H (ds++[])).vars []:=by
  intro M;rw[y,a3];rfl
 refine⟨ds,[],r,[],r,[],a4,hr _ _ _,ha _ (λx hx=>by simpa using a1 x hx),hv _,hb.frame _,λ_=>⟨ok_one Z rfl (okWide_bool_mk u true),_,_,([]++r)++[],⟨[]++r,[],trodAll_append (ha _ (λ_ _=>rfl)) (hr _ _ _),hv _,rfl,?_,?_⟩,?_⟩⟩
 ·intro b off hp;have hp:MemPlace.cell b off∈r:=by simpa using hp
  rw[hb.frozen (p:=⟨b,off,none⟩) (a1 _ hp)];exact hz b off hp
 ·intro a9;have:=hn a9;simpa using this
 ·intro x hx _;simpa using hx
end
section
variable {H:Type} {enc:TypeId×Value->H} {P:Program} {w:World} {base:Nat} {spare:Nat->Bool} {held:Bool}
def shF (P:Program)(g:Ty->TypeId->Bool):List Field->Nat->Ty->Bool
 |[],_,_=>false
 |[f],off,b=>BJ f.offset off&&BJ (P.cellsOf f.type) b.cells&&g b f.type
 |f::r,off,.pair b c=>BJ f.offset off&&BJ (P.cellsOf f.type) b.cells&&g b f.type&&shF P g r (off+b.cells) c
 |_,_,_=>false
def shT (P:Program):Nat->Ty->TypeId->Bool
 |0,_,_=>false
 |n+1,a,t=>match a with
  |.int k=>(match P.underlying t with|some (.int k')=>decide (k'=k)|_=>false)
  |.bool=>(match P.underlying t with|some .bool=>true|_=>false)
  |.str=>(match P.underlying t with|some .string=>true|_=>false)
  |.pair b c=>(match P.underlying t with|some (.struct fs)=>shF P (shT P n) fs.toList 0 (.pair b c)&&BJ (P.cellsOf t) (b.cells+c.cells)|_=>false)
  |.list _ E e=>(match P.underlying t with|some (.slice E')=>BJ E' E&&BJ (P.cellsOf E) e.cells&&CT 0 e.cells&&shT P n e E|_=>false)
  |.unit=>false
  |.hdr=>false
def Sm:(a:Ty)->a.den->Prop
 |.int k,n=>(Lit.int k n).wf=true
 |.pair a b,x=>Sm a x.1/\Sm b x.2
 |.list _ _ e,r=>r.length<=maxLen/\∀ x∈(r:List e.den),Sm e x
 |.bool,_=>True
 |.str,s=>s.size<=maxLen
 |.unit,_=>True
 |.hdr,_=>True
theorem kN {α β:Type}{f:α->Option β}:∀ (l:List α) (r:List β),l.mapM f=some r->r.length=l.length/\∀ (i:Nat) (x:α),l[i]?=some x->∃ y,f x=some y/\r[i]?=some y
 |[],r,h=>by
  simp at h;subst h;exact⟨rfl,λi x X=>by simp at X⟩
 |x::l,r,h=>by
  rw[CZ]at h;cases J:f x with
  |none=>rw[J]at h;cases h
  |some y =>
   rw[J]at h;cases z:l.mapM f with
   |none=>rw[z]at h;cases h
   |some R =>
    rw[z]at h;cases h;obtain⟨M,O⟩:=kN l R z;refine⟨by simp[M],λi u I=>?_⟩;cases i with
    |zero=>simp at I;subst I;exact⟨y,J,rfl⟩
    |succ i=>simpa using O i u (by simpa using I)
theorem rM {a:Addr}{n:Nat}{cs:List Value}(h:w.cells? base a n=some cs):base<=a.block/\cs.length=n/\∀ i u,cs[i]?=some u->w.cell? (a.add i)=some u:=by
 unfold World.cells? at h;split at h
 ·rename_i O;obtain⟨r,J⟩:=kN _ _ h;refine⟨O,by simpa using r,λi u z=>?_⟩;have R:i<n:=by have:=(BK.1 z).1;rw[r]at this;simpa using this
  obtain⟨y,M,I⟩:=J i i (by simp[R]);rw[z]at I;cases I;exact M
 ·cases h
theorem oD {g:Ty->TypeId->Bool}{rd:TypeId->List Value->Option (DataW H×List MemPlace)}
  (Z:∀ b t,g b t=true->∀ cs d,rd t cs=some d->∃ x:b.den,Rd w (λk=>k<w.heap.size) b x cs/\Sm b x) :
  ∀ (fs:List Field) (off:Nat) (b:Ty),shF P g fs off b=true->∀ (cs:List Value),cs.length=off+b.cells ->
   (∀ f∈fs,∃ d,rd f.type ((cs.drop f.offset).take (P.cellsOf f.type))=some d)->∃ x:b.den,Rd w (λk=>k<w.heap.size) b x (cs.drop off)/\Sm b x
 |[],_,_,h=>by simp[shF]at h
 |[f],off,b,h=>by
  intro cs I M;simp only[shF,BC]at h;obtain⟨⟨u,r⟩,R⟩:=h;have u:=BH u;have r:=BH r;obtain⟨d,J⟩:=M f (BG ..);rw[u,r,List.take_of_length_le (by simp;omega)]at J;exact Z b f.type R _ d J
 |f::z::fs,off,.pair b c,h=>by
  intro cs I M;simp only[shF,BC]at h;obtain⟨⟨⟨u,r⟩,R⟩,h4⟩:=h;have u:=BH u;have r:=BH r;have I:cs.length=off+(b.cells+c.cells):=I;obtain⟨d,J⟩:=M f (BG ..);rw[u,r]at J;obtain⟨x,hx,X⟩:=Z b f.type R _ d J;obtain⟨y,hy,O⟩:=oD Z (z::fs) (off+b.cells) c h4 cs (by omega) (λf0 Y=>M f0 (BF _ Y));refine⟨(x,y),⟨_,_,?_,hx,hy⟩,X,O⟩;rw[<- CX,List.take_append_drop]
 |f::z::fs,off,.int _,h=>by simp[shF]at h
 |f::z::fs,off,.bool,h=>by simp[shF]at h
 |f::z::fs,off,.str,h=>by simp[shF]at h
 |f::z::fs,off,.unit,h=>by simp[shF]at h
 |f::z::fs,off,.list _ _ _,h=>by simp[shF]at h
 |f::z::fs,off,.hdr,h=>by simp[shF]at h
theorem oE {β:Type}(Q:Nat->β->Prop):∀ (n:Nat),(∀ i,i<n->∃ x,Q i x)->∃ u:List β,u.length=n/\∀ i x,u[i]?=some x->Q i x
 |0,_=>⟨[],rfl,λi x h=>by simp at h⟩
 |n+1,h=>by
  obtain⟨u,I,J⟩:=oE Q n (λi O=>h i (by omega));obtain⟨x,M⟩:=h n (by omega);refine⟨u++[x],by simp[I],λi y r=>?_⟩;by_cases O:i<n
  ·rw[Bp (by omega)]at r;exact J i y r
  ·have z:i<(u++[x]).length:=(BK.1 r).1;have:i=n:=by simp at z;omega
   subst this;rw[BZ (by omega),I,Nat.sub_self]at r;simp at r;subst r;exact M
theorem qN:∀ (n:Nat) (a:Ty) (t:TypeId),shT P n a t=true->∀ (I:Nat) (cs:List Value) (d:DataW H×List MemPlace),DataW.trod enc P w base spare held I t cs=some d ->
    ∃ x:a.den,Rd w (λk=>k<w.heap.size) a x cs/\Sm a x
  |0,_,_,h=>by simp[shT]at h
  |n+1,a,t,h=>by
    intro I cs d r;cases I with
    |zero=>simp[DataW.trod]at r
    |succ I =>
      cases a with
      |int k =>
        simp only[shT]at h;split at h
        · rename_i k' O
          have hk:=of_decide_eq_true h;subst hk;simp only[DataW.trod,O]at r;split at r <;> first|(rename_i M;cases M;done)|skip
          all_goals first
            | (rename_i k1 k2 m J
               cases J;split at r
               · rename_i hw
                 obtain⟨rfl,hw⟩:=hw;exact⟨m,rfl,hw⟩
               · cases r)
            |cases r
        · cases h
      |bool =>
        simp only[shT]at h;split at h
        · rename_i O
          simp only[DataW.trod,O]at r;split at r <;> first|(rename_i M;cases M;done)|skip
          all_goals first
            |(rename_i b J;exact⟨b,rfl,trivial⟩)
            |cases r
        · cases h
      |str =>
        simp only[shT]at h;split at h
        · rename_i O
          simp only[DataW.trod,O]at r;split at r <;> first|(rename_i M;cases M;done)|skip
          all_goals first
            | (rename_i b J
               split at r
               · rename_i hb
                 exact⟨b,rfl,hb⟩
               · cases r)
            |cases r
        · cases h
      |unit=>simp[shT]at h
      |hdr=>simp[shT]at h
      |pair b c =>
        simp only[shT]at h;split at h
        · rename_i fs O
          simp only[BC]at h;obtain⟨h1,X⟩:=h;have X:=BH X;simp only[DataW.trod,O]at r;split at r
          · rename_i a9
            simp only[BI]at r;obtain⟨ys,b5,_⟩:=r;obtain⟨h3,h4⟩:=kN _ _ b5;have:=oD (w:=w) (rd:=DataW.trod enc P w base spare held I) (λb t hb cs d r=>qN n b t hb I cs d r) fs.toList 0 (.pair b c) h1 cs (by rw[a9,X,B8];rfl) (λf hf=>by
              obtain⟨i,hi,e⟩:=Cf hf;obtain⟨y,h5,_⟩:=h4 i f (by rw[BR hi,e]);exact⟨y,h5⟩)
            simpa using this
          · cases r
        · cases h
      |list m E e =>
        simp only[shT]at h;split at h
        · rename_i E' O
          simp only[BC]at h;obtain⟨⟨⟨h1,X⟩,h3⟩,h4⟩:=h;have h1:=BH h1;subst h1;have X:=BH X;have h3:0<e.cells:=by simpa[CA]using h3
          simp only[DataW.trod,O]at r;split at r <;> first|(rename_i M;cases M;done)|skip
          all_goals first
            |cases r;done
            |skip
          · exact⟨[],Rd.nil w _ m _ e,Cr _,by simp⟩
          · rename_i E2 R a4 b3 J
            cases J;split at r
            · rename_i hc
              obtain⟨b0,bb,b9⟩:=hc;obtain⟨ba,a3,_⟩:=Bt.1 r;obtain⟨h5,h6⟩:=kN _ _ a3;have b1:∀ i,i<a4->∃ x:e.den,∃ c,w.cells? base (R.add (i*e.cells)) e.cells=some c/\Rd w (λk=>k<w.heap.size) e x c/\Sm e x:=by
                intro i hi;obtain⟨y,h7,_⟩:=h6 i i (by simp[hi]);obtain⟨c,h8,h9⟩:=Bt.1 h7;rw[X]at h8;obtain⟨x,hx,b4⟩:=qN n e _ h4 I c y h9;exact⟨x,c,h8,hx,b4⟩
              obtain⟨xs,b2,a1⟩:=oE (λi (x:e.den)=>∃ c,w.cells? base (R.add (i*e.cells)) e.cells=some c/\Rd w (λk=>k<w.heap.size) e x c/\Sm e x) a4 b1;refine⟨xs,⟨some R,b3,by rw[b2],by omega,λhp=>?_⟩,by omega,λx hx=>?_⟩
              · have b6:0<xs.length:=hp
                obtain⟨c,Z,a2,_⟩:=a1 0 xs[0] (BR b6);obtain⟨_,bl,a0⟩:=rM Z;have h0:0<c.length:=by omega
                have z:=a0 0 c[0] (BR h0);have e0:(R.add (0*e.cells)).add 0=R:=by simp[Addr.add]
                rw[e0]at z;have Y:R.spot=none/\R.block<w.heap.size:=by
                  unfold World.cell? at z;split at z
                  · rename_i hh
                    split at z
                    · cases z
                    · rename_i hs
                      refine⟨by simpa using hs,(CK.1 hh).1⟩
                  · cases z
                obtain⟨g,o,sp⟩:=R;obtain⟨a6,a5⟩:=Y;simp only at a6 a5;subst a6;refine⟨g,o,rfl,a5,λj x hj=>?_⟩;obtain⟨c,Z,a2,_⟩:=a1 j x hj;obtain⟨_,_,a0⟩:=rM Z;refine⟨c,a2,λi u hi=>?_⟩;have:=a0 i u hi
                rwa [eT,eT]at this
              · obtain⟨j,hj,e1⟩:=Cf hx
                obtain⟨c,_,_,hs⟩:=a1 j x (by rw[BR hj,e1]);exact hs
            · cases r
        · cases h
end
section
variable {H:Type} {enc:TypeId×Value->H} {P:Program} {w:World}
theorem zb {n:Nat}{a:Ty}{t:TypeId}(r:shT P (n+1) a t=true){v:Value}{d:DataW H}{p:List MemPlace}(M:DataW.Trod enc P w 0 (λ_=>true) true t v d p){base:Nat}(u:Cy P w .any base t v) :
  ∃ x:a.den,(∃ z,c9 a.isAgg v z/\Rd w (λk=>k<w.heap.size) a x z)/\Sm a x:=by
 obtain⟨I,M⟩:=M;obtain⟨x,R,J⟩:=qN (n+1) a t r I _ _ M;refine⟨x,⟨v.cells.toList,?_,R⟩,J⟩;cases a with
 |int k =>
  simp only[shT]at r;split at r
  ·rename_i Y y;obtain⟨n,rfl⟩:=okWide_int y u;rfl
  ·cases r
 |bool =>
  simp only[shT]at r;split at r
  ·rename_i y;obtain⟨n,rfl⟩:=okWide_bool y u;rfl
  ·cases r
 |str =>
  simp only[shT]at r;split at r
  ·rename_i y;obtain⟨n,rfl⟩:=okWide_string y u;rfl
  ·cases r
 |list m E e =>
  simp only[shT]at r;split at r
  ·rename_i Z y;obtain⟨A,O,X,rfl⟩:=okWide_slice y u;rfl
  ·cases r
 |unit=>simp[shT]at r
 |hdr=>simp[shT]at r
 |pair b c =>
  simp only[shT]at r;split at r
  ·rename_i fs y;obtain⟨z,rfl,_⟩:=okWide_struct y u;show Value.agg z=.agg (Value.agg z).cells.toList.toArray;simp[Value.cells]
  ·cases r
def Sms:(as:List Ty)->ab (as.map .rd)->Prop
 |[],_=>True
 |a::as,x=>Sm a x.1/\Sms as x.2
def tR (P:Program):List Ty->List TypeId->Bool
 |[],[]=>true
 |a::as,t::r=>shT P 64 a t&&tR P as r
 |_,_=>false
theorem rN {pr:Nat->Prop}:∀ (as:List Ty) (I:List TypeId) (u:List Value) (ds:List (DataW H)) (ps:List MemPlace),tR P as I=true->DataW.TrodAll enc P w 0 (λ_=>true) true I u ds ps ->
  (∃ r,∀ (j:Nat) (t:TypeId) (v:Value),I[j]?=some t->u[j]?=some v->Cy P w .any r t v)->∃ x:ab (as.map .rd),c7 P w (λk=>k<w.heap.size) pr (as.map .rd) x u (as.map λ_=>[])/\Sms as x
 |[],[],[],[],_,_,_,_=>⟨(),⟨rfl,rfl⟩,trivial⟩
 |[],[],[],_::_,_,_,h,_=>h.elim
 |[],[],_::_,_,_,_,h,_=>h.elim
 |[],_::_,_,_,_,h,_,_=>by simp[tR]at h
 |_::_,[],_,_,_,h,_,_=>by simp[tR]at h
 |_::_,_::_,[],_,_,_,h,_=>h.elim
 |_::_,_::_,_::_,[],_,_,h,_=>h.elim
 |a::as,t::I,v::u,d::ds,ps,O,⟨p,q,h1,Y,_⟩,⟨r,z⟩=>by
  simp only[tR,BC]at O;obtain⟨x,hx,M⟩:=zb (n:=63) O.1 h1 (z 0 t v rfl rfl);obtain⟨y,X,J⟩:=rN as I u ds q O.2 Y ⟨r,λj t' Z R h4=>z (j+1) t' Z (by simpa using R) (by simpa using h4)⟩;exact⟨(x,y),⟨v,u,[],_,rfl,rfl,⟨rfl,hx⟩,X⟩,M,J⟩
theorem zc (tys:List Ty):(tys.map λ_=>([]:List Nat)).flatten=[]:=by
 induction tys with
 |nil=>rfl
 |cons a tys r=>simp
theorem xW {f:FuncId}{tys:List Ty}{y:Bool}{J:ab (tys.map PK.rd)->Option (ai [.v .bool]×ah (tys.map PK.rd))}(hs:bO P ⟨f,tys.map .rd,[.v .bool],y,J⟩){x:ab (tys.map .rd)}{X:List Value}{o:ah (tys.map .rd)}
  (hx:c7 P w (λk=>k<w.heap.size) (λk=>k<w.heap.size) (tys.map .rd) x X (tys.map λ_=>[])) (hd:J x=some ((true,()),o)):Calls P f X.toArray w (λe w'=>e=.returned (.bool true)/\Below w.heap.size w w'):=by
 have R:=zc tys;have:=hs.2 w (λk=>k<w.heap.size) x X _ _ (hx.mono (λ_ h=>h) (λk O=>⟨O,by rw[R];simp⟩)) (λk O=>⟨O,by rw[R];simp⟩) (by rw[R];exact CM) hd;refine this.mono λe w' hp=>?_
 obtain⟨v,us,N,a5,a4,rfl,r,Y,a2,Z,a1,a0,_,_,I,_,_⟩:=hp;refine⟨?_,⟨a2,Z,a1,Y,λk O=>a0 k O (by rw[R];simp)⟩⟩;obtain⟨u,a6,b,a3,e1,e2,⟨cs,z,M⟩,e3,e4⟩:=I;subst e3;subst e1;have r:v=u:=r;subst r;have z:cs=[v]:=z;have M:cs=[.bool true]:=M.1;rw[z]at M;simp only[CU,and_true]at M;rw[M]
end
end Go.Proofs.YtaelpfghkndliaaGreatEv
