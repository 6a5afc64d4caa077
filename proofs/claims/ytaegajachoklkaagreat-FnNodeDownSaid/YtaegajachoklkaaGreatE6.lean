/- One operation looks at some slots alone. -/
import Derived.Test.YtaegajachoklkaaGreatE3
import Derived.Laws.StructEq
import Derived.Lib.SliceRun
import Derived.ProofKit
set_option linter.unusedVariables false
set_option linter.unusedSimpArgs false
open Array renaming getElem?_eq_getElem->BF,getD_eq_getD_getElem?->BG,replicate->Bc,all_eq_true_iff_forall_mem->Bn,getElem?_eq_some_iff->Bw,getElem?_append_left->Bx,getElem?_replicate->B6,mem_of_getElem?->CB,length_toList->CH,mem_append->CT
open Bool renaming and_eq_true->AV,not_eq_true'->Be,or_eq_true->Br,false_eq_true->Bu,and_false->Bv,and_true->B5,true_and->CL,not_false->Cb
open Classical renaming byContradiction->BV
open Go.ByteArray renaming toList_eq->CJ
open Go.Result renaming andThen_ok->Bi
open Go.Sem renaming run_bind->Bo,run_pure->CQ
open Go.Value renaming okWide->Cd
open List renaming mem_append->AU,mem_append_left->AW,mem_append_right->AX,mem_cons_of_mem->AY,mem_cons_self->AZ,getElem?_eq_some_iff->BD,mem_map->BE,mem_cons->BH,getD_eq_getElem?_getD->BI,flatten_cons->BJ,getElem?_eq_getElem->BK,mem_flatMap->BM,count_append->BN,mem_singleton_self->BO,count_pos_iff->BP,all_eq_true->BQ,map_cons->BR,getElem?_append_right->BS,getElem?_append_left->BU,append_assoc->BX,nil_append->BZ,mem_singleton->Ba,nodup_cons->Bb,length_cons->Bg,nodup_append->Bh,mem_filter->Bl,any_eq_true->Bq,map_append->Bs,count_cons->Bt,nodup_nil->By,count_eq_zero->Bz,any_eq_false->B3,all_cons->B4,getElem?_cons_succ->B7,getElem?_eq_none->CA,drop_drop->CC,mapM_cons->CE,map_congr_left->CG,countP_eq_zero->CI,getElem_of_mem->CK,set_cons_succ->CM,find?_eq_none->CO,getElem?_map->CP,size_toArray->CR,mem_toArray->CS,countP_cons->CU,foldl_cons->CY,range->Ca,map_nil->Cc
open List.cons renaming injEq->B9
open Nat renaming eq_of_beq_eq_true->BA,beq->BC,le_of_ble_eq_true->BW,lt_succ_self->Bj,zero_add->Bk,blt_eq->Bm,blt->B8,le_refl->CD,ble->CF,lt_of_lt_of_le->CN,zero_le->CW,strongRecOn->CZ
open Option renaming map_eq_some_iff->BB,map_some->BT,bind_eq_some_iff->BY,bind_assoc->Bd,bind_some->Bf,bind_none->Bp,getD_some->CV
open Option.some renaming injEq->AT,inj->CX
open Prod.mk renaming injEq->BL
namespace Go.Proofs.YtaegajachoklkaaGreatEv
open Go Go.RowKit
section
variable {P:Program} {V:Env} {Γ:List Ctr} {T:TypeId->TI} {st st':St} {o:Oper} {R:Type} {κ:Upd->Option R} {r:R}
theorem gi {α β:Type}(b:Bool)(x y:Option α)(f:α->Option β):(bif b then x else y).bind f=bif b then x.bind f else y.bind f:=by cases b <;> rfl
theorem vK {b:Option (Bool×Nat×Nat)}{U:Upd}:jx st b U κ=(jx st b U some).bind κ:=by
 unfold jx;split
 ·split
  ·simp only[Bd];congr 1;funext y;split <;> rfl
  ·rfl
 ·rfl
theorem vL {d:Nat}{f:FuncId}{xs:List (aG×List Leaf)}:iW Γ st d f xs κ=(iW Γ st d f xs some).bind κ:=by
 unfold iW;cases lB Γ f with
 |none=>rfl
 |some c =>
  simp only[gh,Bd];congr 1;funext u;cases oh Γ (ac u.1 st) c.ps u.2.1 with
  |none=>rfl
  |some g =>
   simp only[gi,Bd,Bp];congr 2;funext y;exact vK
theorem mo {z:St}{H:Upd}{d:Nat}{E:TypeId}{e:Ty}{u:Nat}{p:Bool}{xs:List e.den}{ks:List (Nat×Nat)}{y:Leaf}:dF st z H d E e u p xs ks y κ=(dF st z H d E e u p xs ks y some).bind κ:=by
 unfold dF;split
 ·simp only[gi,Bp,Bf]
 ·rfl
theorem th {z:Upd}{d:Nat}{E:TypeId}{e:Ty}{u:Nat}{x y:Leaf}:dX st z d E e u x y κ=(dX st z d E e u x y some).bind κ:=by
 unfold dX;split
 ·split
  ·rw[gi,<- mo];rfl
  ·rfl
 ·exact mo
 ·rfl
theorem tj {d:Nat}{E:TypeId}{e:Ty}{u:Nat}{x y:Leaf}:hY st d E e u x y κ=(hY st d E e u x y some).bind κ:=by
 unfold hY;simp only[gK,gi,Bd,<- th]
theorem mY {r j i off n:Nat}{p:Bool}{E:TypeId}{e:Ty}{xs:List e.den}{h:Option (Nat×Nat)}{ls:List Leaf}:gq st r j i off n p E e xs h ls κ=(gq st r j i off n p E e xs h ls some).bind κ:=by
 unfold gq;simp only[Bd];congr 1;funext u;split
 ·rw[gi];congr 1;split
  ·rfl
  ·simp only[gi,Bf,Bp]
 ·rfl
theorem tk:act Γ T o st κ=(act Γ T o st some).bind κ:=by
 cases u:o.op <;> simp only[act,wrU,u] <;> (repeat' split) <;>
  (try simp only[gi,Bd,Bp,Bf]) <;> (try rfl) <;> (try exact vL) <;> (try (rw[tj];done)) <;> (try (rw[mY];done)) <;> (try (rw[<- mY];done))
theorem bh {q:Nat}(h:st' q=st q):∀ (U:Upd),ac U st' q=ac U st q
 |[]=>h
 |(r,c)::U=>by simp only[ac,bh h U]
theorem dD {x:Operand}(h:∀ t,x=.tmp t->st' t=st t):ar st' x=ar st x:=by
 cases x with
 |tmp t=>simp only[ar,h t rfl]
 |_=>rfl
theorem dm {x:Operand}(h:∀ t,x=.tmp t->st' t=st t):one st' x=one st x:=by
 unfold one;rw[dD h]
theorem kS:∀ (u y:List Leaf),aw (u++y)=aw u++aw y
 |[],_=>rfl
 |l::u,y=>by cases l <;> simp[aw,kS u y]
theorem aK (l:Leaf)(ls:List Leaf):aw (l::ls)=aw [l]++aw ls:=kS [l] ls
theorem fh:∀ (n:Nat) (ls:List Leaf) (q:Nat),q∈aw (ls.drop n)->q∈aw ls
 |0,_,_,h=>h
 |n+1,[],_,h=>h
 |n+1,l::ls,q,h=>by rw[aK];exact AX _ (fh n ls q h)
theorem q9:∀ (n:Nat) (ls:List Leaf) (q:Nat),q∈aw (ls.take n)->q∈aw ls
 |0,_,_,h=>by simp[aw]at h
 |n+1,[],_,h=>by simp[aw]at h
 |n+1,l::ls,q,h=>by
  rw[List.take_succ_cons,aK,AU]at h;rw[aK,AU];exact h.imp id (q9 n ls q)
theorem qq:∀ {ls:List Leaf} {k:Nat} {l:Leaf},ls[k]?=some l->∀ q∈aw [l],q∈aw ls
 |[],_,_,h,_,_=>by simp at h
 |y::ls,0,l,h,q,u=>by simp at h;subst h;rw[aK];exact AW _ u
 |y::ls,k+1,l,h,q,u=>by rw[aK];exact AX _ (qq (by simpa using h) q u)
theorem jk {ks:List (Nat×Nat×Nat)}{ep:Nat}(h:∀ q∈EPO::ks.map (·.1),st' q=st q):bj st' ks ep=bj st ks ep:=by
 unfold bj;rw[h EPO (AZ ..)];congr 1;induction ks with
 |nil=>rfl
 |cons k ks y =>
  rw[B4,B4,y (λq u=>h q (by simp at u ⊢;rcases u with u|u;exact .inl u;exact .inr (.inr u))),h k.1 (by simp)]
theorem hH {p:Bool}{ks:List (Nat×Nat×Nat)}{ep:Nat}{u:Option (Nat×Nat×Nat)}{E:TypeId}{e:Ty}{xs:List e.den}:aw [.nal p ks ep u E e xs]=EPO::ks.map (·.1):=by simp[aw]
theorem uF {p:Bool}{ks:List (Nat×Nat×Nat)}{ep:Nat}{a:Ty}{x:a.den}{off:Nat}:aw [.np p ks ep a x off]=EPO::ks.map (·.1):=by simp[aw]
theorem b8 {l:Leaf}(h:∀ q∈aw [l],st' q=st q):aD st' l=aD st l:=by
 cases l with
 |al r j v=>simp only[aD,h r (by simp[aw])]
 |nal p y ep u E e z=>rw[hH]at h;simp only[aD,jk h]
 |_=>rfl
theorem ju:∀ (a:Ty) (ls:List Leaf) (p:Bool) (x:a.den) (u:List Leaf),aX st a ls=some (p,x,u)->∃ J,ls=J++u
 |.int k,ls,p,x,u,h=>by
  simp only[aX]at h;split at h
  ·split at h
   ·simp at h;exact⟨[_],by rw[<- h.2.2];rfl⟩
   ·cases h
  ·cases h
 |.bool,ls,p,x,u,h=>by
  simp only[aX]at h;split at h
  ·simp at h;exact⟨[_],by rw[<- h.2.2];rfl⟩
  ·cases h
 |.str,ls,p,x,u,h=>by
  simp only[aX]at h;split at h
  ·simp at h;exact⟨[_],by rw[<- h.2.2];rfl⟩
  ·cases h
 |.unit,ls,p,x,u,h=>by
  simp only[aX,AT,BL]at h;exact⟨[],by rw[h.2.2];rfl⟩
 |.hdr,ls,p,x,u,h=>by
  simp only[aX]at h;split at h
  ·split at h
   ·simp at h;exact⟨[_],by rw[<- h.2.2];rfl⟩
   ·cases h
  ·cases h
 |.pair a b,ls,p,x,u,h=>by
  simp only[aX]at h;split at h
  ·rename_i q y H Z;split at h
   ·rename_i M z I X;simp at h;obtain⟨J,e1⟩:=ju a ls q y H Z;obtain⟨O,Y⟩:=ju b H M z I X;exact⟨J++O,by rw[e1,Y,h.2.2,BX]⟩
   ·cases h
  ·cases h
 |.list m E e,ls,p,x,u,h=>by
  simp only[aX]at h;split at h
  ·split at h
   ·simp at h;exact⟨[_],by rw[<- h.2.2];rfl⟩
   ·cases h
  ·cases h
theorem gj:∀ (a:Ty) (ls:List Leaf),(∀ q∈aw ls,st' q=st q)->aX st' a ls=aX st a ls
 |.int k,ls,h=>rfl
 |.bool,ls,h=>rfl
 |.str,ls,h=>rfl
 |.unit,ls,h=>rfl
 |.hdr,ls,h=>by
  cases ls with
  |nil=>rfl
  |cons l ls =>
   simp only[aX];rw[b8 (l:=l) (λq z=>h q (by rw[aK];exact AW _ z))]
 |.pair a b,ls,h=>by
  simp only[aX,gj a ls h];cases H:aX st a ls with
  |none=>rfl
  |some x =>
   obtain⟨p,y,u⟩:=x;obtain⟨J,I⟩:=ju a ls p y u H;simp only;rw[gj b u (λq z=>h q (by rw[I,kS];exact AX _ z))]
 |.list m E e,ls,h=>by
  cases ls with
  |nil=>rfl
  |cons l ls =>
   simp only[aX];rw[b8 (l:=l) (λq z=>h q (by rw[aK];exact AW _ z))]
theorem eh {a:Ty}{ls:List Leaf}(h:∀ q∈aw ls,st' q=st q):cA st' a ls=cA st a ls:=by
 unfold cA;rw[gj a ls h]
theorem mZ {e:Ty}:∀ (n:Nat) (ls:List Leaf),(∀ q∈aw ls,st' q=st q)->ff st' e n ls=ff st e n ls
 |0,_,_=>rfl
 |n+1,ls,h=>by
  simp only[ff,eh (ls:=ls.take e.cells) (λq u=>h q (q9 _ _ q u)),mZ n (ls.drop e.cells) (λq u=>h q (fh _ _ q u))]
theorem iQ:∀ {ls:List Leaf},(∀ q∈aw ls,st' q=st q)->bq st' ls=bq st ls
 |[],_=>rfl
 |l::ls,h=>by
  have y:=iQ (ls:=ls) (λq u=>h q (by rw[aK];exact AX _ u));cases l with
  |al r j v=>simp only[bq,y,b8 (l:=.al r j v) (λq u=>h q (by rw[aK];exact AW _ u))]
  |nal p H ep z E e I=>simp only[bq,y,b8 (l:=.nal p H ep z E e I) (λq u=>h q (by rw[aK];exact AW _ u))]
  |_=>simpa[bq]using y
theorem oL:∀ {ls:List Leaf},(∀ q∈aw ls,st' q=st q)->bU st' ls=bU st ls
 |[],_=>rfl
 |l::ls,h=>by
  have y:=oL (ls:=ls) (λq u=>h q (by rw[aK];exact AX _ u));cases l with
  |al r j v=>simp only[bU,y,b8 (l:=.al r j v) (λq u=>h q (by rw[aK];exact AW _ u))]
  |_=>simpa[bU]using y
theorem qr:∀ {ls:List Leaf},(∀ q∈aw ls,st' q=st q)->dg st' ls=dg st ls
 |[],_=>rfl
 |l::ls,h=>by
  have u:=qr (ls:=ls) (λq y=>h q (by rw[aK];exact AX _ y));cases l with
  |nal p H ep z E e I =>
   cases z with
   |none=>simp only[dg,u,b8 (l:=.nal p H ep none E e I) (λq y=>h q (by rw[aK];exact AW _ y))]
   |some x=>simpa[dg]using u
  |_=>simpa[dg]using u
theorem oM {ls:List Leaf}(h:∀ q∈aw ls,st' q=st q):dt st' ls=dt st ls:=by
 unfold dt;induction ls with
 |nil=>rfl
 |cons l ls y =>
  rw[BR,BR,y (λq u=>h q (by rw[aK];exact AX _ u))];unfold fT;rw[b8 (λq u=>h q (by rw[aK];exact AW _ u))]
theorem d8:∀ {ls:List Leaf} {x:Nat×Nat},x∈bq st ls->x.1∈aw ls
 |[],_,h=>by simp[bq]at h
 |l::ls,x,h=>by
  cases l with
  |al r j v =>
   simp only[bq,AU]at h;rcases h with h|h
   ·split at h
    ·simp at h;subst h;simp[aw]
    ·simp at h
   ·rw[aK];exact AX _ (d8 h)
  |nal p z ep u E e H =>
   simp only[bq,AU]at h;rcases h with h|h
   ·split at h
    ·obtain⟨k,y,rfl⟩:=BE.1 h;rw[aK,hH];exact AW _ (AY _ (BE.2 ⟨k,y,rfl⟩))
    ·simp at h
   ·rw[aK];exact AX _ (d8 h)
  |_=>(simp only[bq]at h;rw[aK];exact AX _ (d8 h))
theorem iR:∀ {ls:List Leaf} {x:Nat×Nat},x∈bU st ls->x.1∈aw ls
 |[],_,h=>by simp[bU]at h
 |l::ls,x,h=>by
  cases l with
  |al r j v =>
   simp only[bU,AU]at h;rcases h with h|h
   ·split at h
    ·simp at h;subst h;simp[aw]
    ·simp at h
   ·rw[aK];exact AX _ (iR h)
  |_=>(simp only[bU]at h;rw[aK];exact AX _ (iR h))
theorem gO:∀ {ls:List Leaf} {x:Nat×Nat},x∈dg st ls->x.1∈aw ls
 |[],_,h=>by simp[dg]at h
 |l::ls,x,h=>by
  cases l with
  |nal p H ep u E e I =>
   cases u with
   |none =>
    simp only[dg,AU]at h;rcases h with h|h
    ·split at h
     ·obtain⟨k,z,rfl⟩:=BE.1 h;rw[aK,hH];exact AW _ (AY _ (BE.2 ⟨k,z,rfl⟩))
     ·simp at h
    ·rw[aK];exact AX _ (gO h)
   |some y=>(simp only[dg]at h;rw[aK];exact AX _ (gO h))
  |_=>(simp only[dg]at h;rw[aK];exact AX _ (gO h))
theorem hI:∀ {ks:List (Nat×Nat)},(∀ x∈ks,st' x.1=st x.1)->aL st' ks=aL st ks
 |[],_=>rfl
 |(r,j)::ks,h=>by
  simp only[aL,hI (ks:=ks) (λx u=>h x (AY _ u)),bh (h (r,j) (AZ ..))]
theorem jN:∀ {ks:List (Nat×Nat)},(∀ x∈ks,st' x.1=st x.1)->aE st' ks=aE st ks
 |[],_=>rfl
 |(r,j)::ks,h=>by
  simp only[aE,jN (ks:=ks) (λx u=>h x (AY _ u)),bh (h (r,j) (AZ ..))]
theorem tm {ls:List Leaf}(h:∀ q∈aw ls,st' q=st q):mvU st' ls=mvU st ls:=by
 unfold mvU;rw[qr h,oL h,jN (λx u=>h _ (gO u))];simp only;rw[hI (λx u=>bh (h _ (iR u)) _)]
theorem qs {ls:List Leaf}(h:∀ q∈aw ls,st' q=st q):gQ st' ls=gQ st ls:=by
 unfold gQ;rw[qr h,oL h]
theorem iS:∀ (a:Ty) (ls:List Leaf),(∀ q∈aw ls,st' q=st q)->take st' a ls=take st a ls
 |.int k,ls,h=>by simp only[take,gj (.int k) ls h]
 |.bool,ls,h=>by simp only[take,gj .bool ls h]
 |.str,ls,h=>by simp only[take,gj .str ls h]
 |.unit,ls,h=>rfl
 |.hdr,ls,h=>by simp only[take,gj .hdr ls h]
 |.pair a b,ls,h=>by
  simp only[take,iS a ls h];cases z:take st a ls with
  |none=>rfl
  |some x =>
   have H:=jM.take_rest a ls x z;simp only;rw[iS b x.rest (λq u=>h q (fh a.cells ls q (by rw[<- H];exact u)))]
 |.list m E e,ls,h=>by
  cases ls with
  |nil=>rfl
  |cons l ls =>
   have y:∀ q∈aw [l],st' q=st q:=λq u=>h q (by rw[aK];exact AW _ u)
   simp only[take,b8 y,iQ y];congr 1;split
   ·rename_i r j v;rw[b8 y]
   ·rfl
   ·rfl
theorem gD {a:Ty}{ls:List Leaf}(h:∀ q∈aw ls,st' q=st q):b7 st' a ls=b7 st a ls:=by
 unfold b7;rw[iS a ls h]
theorem nF:∀ (a:Ty) (ls:List Leaf) (t:ct a.den),take st a ls=some t->(∀ z∈t.frz,z.1∈aw ls)/\∀ z∈t.kill,z.1∈aw ls
 |.int k,ls,t,h=>by simp only[take,BB]at h;obtain⟨_,_,rfl⟩:=h;exact⟨by simp,by simp⟩
 |.bool,ls,t,h=>by simp only[take,BB]at h;obtain⟨_,_,rfl⟩:=h;exact⟨by simp,by simp⟩
 |.str,ls,t,h=>by simp only[take,BB]at h;obtain⟨_,_,rfl⟩:=h;exact⟨by simp,by simp⟩
 |.hdr,ls,t,h=>by simp only[take,BB]at h;obtain⟨_,_,rfl⟩:=h;exact⟨by simp,by simp⟩
 |.unit,ls,t,h=>by simp only[take,AT]at h;subst h;exact⟨by simp,by simp⟩
 |.pair a b,ls,t,h=>by
  simp only[take]at h;split at h
  ·rename_i x I;split at h
   ·rename_i y Z;simp only[AT]at h;subst h;have hr:=jM.take_rest a ls x I;obtain⟨X,O⟩:=nF a ls x I;obtain⟨H,J⟩:=nF b x.rest y Z;rw[hr]at H J;exact⟨λz u=>(AU.1 u).elim (X z) (λu=>fh _ _ _ (H z u)),λz u=>(AU.1 u).elim (O z) (λu=>fh _ _ _ (J z u))⟩
   ·cases h
  ·cases h
 |.list m E e,ls,t,h=>by
  cases ls with
  |nil=>simp[take]at h
  |cons l ls =>
   have M:∀ q∈aw [l],q∈aw (l::ls):=λq Y=>by rw[aK];exact AW _ Y
   cases m with
   |false =>
    simp only[take,cond_false]at h;split at h
    ·simp only[AT]at h;subst h;exact⟨λz u=>M _ (d8 u),by simp⟩
    ·cases h
   |true =>
    simp only[take,cond_true]at h;split at h
    ·split at h
     ·simp only[BB]at h;obtain⟨_,_,rfl⟩:=h;exact⟨by simp,λz u=>by simp at u;subst u;exact M _ (by simp[aw])⟩
     ·cases h
    ·simp only[AT]at h;subst h;exact⟨by simp,by simp⟩
    ·cases h
theorem iC {a:Ty}{ls:List Leaf}{t:ct a.den}(h:b7 st a ls=some t):(∀ z∈t.frz,z.1∈aw ls)/\∀ z∈t.kill,z.1∈aw ls:=by
 unfold b7 at h;split at h
 ·rename_i p x f k u;simp only[AT]at h;subst h;exact nF a ls _ u
 ·cases h
theorem jF:∀ {off n:Nat} (a:Ty) (pos:Nat) (x:a.den) (ls:List Leaf) (t:ct a.den),cP st off n a pos x ls=some t->∃ k,t.rest=ls.drop k
 |off,n,.pair a b,pos,x,ls,t,h=>by
  simp only[cP]at h;split at h
  ·rename_i u M;split at h
   ·rename_i v z;simp only[AT]at h;subst h;obtain⟨H,J⟩:=jF a pos x.1 ls u M;obtain⟨y,I⟩:=jF b (pos+a.cells) x.2 u.rest v z;exact⟨H+y,by show v.rest=_;rw[I,J,CC]⟩
   ·cases h
  ·cases h
 |off,n,.unit,pos,x,ls,t,h=>by simp only[cP,AT]at h;subst h;exact⟨0,rfl⟩
 |off,n,.hdr,pos,x,ls,t,h=>by simp[cP]at h
 |off,n,.int k,pos,x,ls,t,h=>sc (a:=.int k) h
 |off,n,.bool,pos,x,ls,t,h=>sc (a:=.bool) h
 |off,n,.str,pos,x,ls,t,h=>sc (a:=.str) h
 |off,n,.list m E e,pos,x,ls,t,h=>sc (a:=.list m E e) h
where
 sc {a:Ty} {b:Bool} {x:a.den} {ls:List Leaf} {t:ct a.den} (h:(bif b then take st a ls else some ⟨false,x,[],[],ls⟩)=some t):∃ k,t.rest=ls.drop k:=by
  cases b with
  |true=>exact⟨_,jM.take_rest a ls t h⟩
  |false=>simp only[cond_false,AT]at h;subst h;exact⟨0,rfl⟩
theorem oN:∀ {off n:Nat} (a:Ty) (pos:Nat) (x:a.den) (ls:List Leaf),(∀ q∈aw ls,st' q=st q)->cP st' off n a pos x ls=cP st off n a pos x ls
 |off,n,.pair a b,pos,x,ls,h=>by
  simp only[cP,oN a pos x.1 ls h];cases z:cP st off n a pos x.1 ls with
  |none=>rfl
  |some u =>
   obtain⟨k,e⟩:=jF a pos x.1 ls u z;simp only;rw[oN b (pos+a.cells) x.2 u.rest (λq y=>h q (fh k ls q (by rw[<- e];exact y)))]
 |off,n,.unit,pos,x,ls,h=>rfl
 |off,n,.hdr,pos,x,ls,h=>rfl
 |off,n,.int k,pos,x,ls,h=>by simp only[cP,iS (.int k) ls h]
 |off,n,.bool,pos,x,ls,h=>by simp only[cP,iS .bool ls h]
 |off,n,.str,pos,x,ls,h=>by simp only[cP,iS .str ls h]
 |off,n,.list m E e,pos,x,ls,h=>by simp only[cP,iS (.list m E e) ls h]
theorem oO:∀ {off n:Nat} (a:Ty) (pos:Nat) (x:a.den) (ls:List Leaf) (t:ct a.den),cP st off n a pos x ls=some t->(∀ z∈t.frz,z.1∈aw ls)/\∀ z∈t.kill,z.1∈aw ls
 |off,n,.pair a b,pos,x,ls,t,h=>by
  simp only[cP]at h;split at h
  ·rename_i u J;split at h
   ·rename_i v X;simp only[AT]at h;subst h;obtain⟨k,e⟩:=jF a pos x.1 ls u J;obtain⟨O,M⟩:=oO a pos x.1 ls u J;obtain⟨H,I⟩:=oO b (pos+a.cells) x.2 u.rest v X;rw[e]at H I;exact⟨λz y=>(AU.1 y).elim (O z) (λy=>fh _ _ _ (H z y)),λz y=>(AU.1 y).elim (M z) (λy=>fh _ _ _ (I z y))⟩
   ·cases h
  ·cases h
 |off,n,.unit,pos,x,ls,t,h=>by simp only[cP,AT]at h;subst h;exact⟨by simp,by simp⟩
 |off,n,.hdr,pos,x,ls,t,h=>by simp[cP]at h
 |off,n,.int k,pos,x,ls,t,h=>sc (a:=.int k) h
 |off,n,.bool,pos,x,ls,t,h=>sc (a:=.bool) h
 |off,n,.str,pos,x,ls,t,h=>sc (a:=.str) h
 |off,n,.list m E e,pos,x,ls,t,h=>sc (a:=.list m E e) h
where
 sc {a:Ty} {b:Bool} {x:a.den} {ls:List Leaf} {t:ct a.den} (h:(bif b then take st a ls else some ⟨false,x,[],[],ls⟩)=some t):(∀ z∈t.frz,z.1∈aw ls)/\∀ z∈t.kill,z.1∈aw ls:=by
  cases b with
  |true=>exact nF a ls t h
  |false=>simp only[cond_false,AT]at h;subst h;exact⟨by simp,by simp⟩
theorem uG {U:Upd}{d:Nat}{sh:aG}{ls:List Leaf}(h:st' d=st d):bZ st' U d sh ls=bZ st U d sh ls:=by
 simp only[bZ,bh h]
theorem ra:∀ {xs:List Operand} {t:Nat},Operand.tmp t∈xs->t∈hZ xs
 |[],_,h=>by simp at h
 |x::xs,t,h=>by
  rcases BH.1 h with rfl|h
  ·simp[hZ]
  ·have u:=ra h;cases x <;> simp[hZ,u]
theorem m7 (t n:Nat):∀ (j:Nat) (ls:List Leaf) (q:Nat),q∈aw (bz t n j ls)->q=t\/q∈aw ls
 |_,[],_,h=>by simp[bz,aw]at h
 |j,l::ls,q,h=>by
  simp only[bz]at h;rw[aK,AU]at h;rw[aK,AU];rcases h with h|h
  ·cases l with
   |own p u E e y=>simp[ly,aw]at h;exact .inl h
   |_=>exact .inr (.inl h)
  ·exact (m7 t n (j+1) ls q h).imp id .inr
theorem kT:∀ (u y:List Leaf),ay (u++y)=ay u++ay y
 |[],_=>rfl
 |l::u,y=>by cases l <;> simp[ay,kT u y]
theorem db (l:Leaf)(ls:List Leaf):ay (l::ls)=ay [l]++ay ls:=kT [l] ls
theorem fj:∀ {ls:List Leaf} {q:Nat},q∈aw ls->q∈ay ls
 |[],_,h=>by simp[aw]at h
 |l::ls,q,h=>by
  rw[aK,AU]at h;rw[db,AU];rcases h with h|h
  ·left;cases l with
   |nal p u ep y E e z=>simp[aw]at h;simpa[ay]using h
   |np p u ep a x off=>simp[aw]at h;simpa[ay]using h
   |_=>simp[aw]at h <;> simp[ay,h]
  ·exact .inr (fj h)
theorem m8 (t n:Nat):∀ (j:Nat) (ls:List Leaf) (q:Nat),q∈ay (bz t n j ls)->q=t\/q∈ay ls
 |_,[],_,h=>by simp[bz,ay]at h
 |j,l::ls,q,h=>by
  simp only[bz]at h;rw[db,AU]at h;rw[db,AU];rcases h with h|h
  ·cases l with
   |own p u E e y=>simp[ly,ay]at h;exact .inl h
   |_=>exact .inr (.inl h)
  ·exact (m8 t n (j+1) ls q h).imp id .inr
theorem re {x:Operand}{q:Nat}(h:q∈aw (ar st x).2):∃ t,x=.tmp t/\(q=t\/q∈aw (st t).ls):=by
 cases x with
 |tmp t =>
  simp only[ar]at h;cases y:B8 t GH with
  |false=>simp[y,aw]at h
  |true=>simp only[y,cond_true]at h;exact⟨t,rfl,m7 _ _ _ _ _ h⟩
 |const v =>
  simp only[ar]at h;split at h
  ·rename_i l u;unfold hM at u;split at u <;> simp at u <;> subst u <;> simp[aw]at h
  ·simp[aw]at h
 |func f=>simp[ar,aw]at h
 |global g=>simp[ar,aw]at h
theorem rg {x:Operand}{q:Nat}(h:q∈ay (ar st x).2):∃ t,x=.tmp t/\(q=t\/q∈ay (st t).ls):=by
 cases x with
 |tmp t =>
  simp only[ar]at h;cases y:B8 t GH with
  |false=>simp[y,ay]at h
  |true=>simp only[y,cond_true]at h;exact⟨t,rfl,m8 _ _ _ _ _ h⟩
 |const v =>
  simp only[ar]at h;split at h
  ·rename_i l u;unfold hM at u;split at u <;> simp at u <;> subst u <;> simp[ay]at h
  ·simp[ay]at h
 |func f=>simp[ar,ay]at h
 |global g=>simp[ar,ay]at h
theorem qt {x:Operand}{l:Leaf}(h:one st x=l)(y:l≠.dead):(ar st x).2=[l]:=by
 unfold one at h;split at h
 ·rename_i z u;rw[u,h]
 ·exact absurd h.symm y
theorem iT {x:Operand}{q:Nat}(h:q∈aw [one st x]):q∈aw (ar st x).2:=by
 by_cases u:one st x=.dead
 ·rw[u]at h;simp[aw]at h
 ·rw[qt rfl u];exact h
theorem tn {x:Operand}{q:Nat}(h:q∈ay [one st x]):q∈ay (ar st x).2:=by
 by_cases u:one st x=.dead
 ·rw[u]at h;simp[ay]at h
 ·rw[qt rfl u];exact h
def jb:Leaf->Bool×Leaf
 |.own _ _ _ e u=>(true,.ep 0 0 0 e.cells u.length 0)
 |l=>(false,l)
def bD (c:bL):Nat×aG×List (Bool×Leaf):=(c.ver,c.sh,c.ls.map jb)
theorem tp {l l':Leaf}(h:jb l'=jb l):l'=l\/∃ (p p':Bool) (z y:Option (Nat×Nat)) (E E':TypeId) (e e':Ty) (xs:List e.den) (u:List e'.den),l=.own p z E e xs/\l'=.own p' y E' e' u/\e'.cells=e.cells/\u.length=xs.length:=by
 cases l <;> cases l' <;> simp only[jb,BL,Bu,reduceCtorEq,false_and,and_false,true_and,Leaf.ep.injEq,Bool.true_eq_false]at h <;>
  first
  |exact .inr ⟨_,_,_,_,_,_,_,_,_,_,rfl,rfl,h.1,h.2.1⟩
  |exact .inr ⟨_,_,_,_,_,_,_,_,_,_,rfl,rfl,h.1,h.2⟩
  |exact .inl rfl
  |exact .inl (by rw[h])
  |exact .inl h
  |(obtain⟨rfl,rfl,rfl,rfl,rfl,rfl⟩:=h;exact .inl rfl)
theorem pM (t n:Nat):∀ (j:Nat) (ls u:List Leaf),u.map jb=ls.map jb->bz t n j u=bz t n j ls
 |_,[],[],_=>rfl
 |_,[],_::_,h=>by simp at h
 |_,_::_,[],h=>by simp at h
 |j,l::ls,X::u,h=>by
  simp only[BR,B9]at h;simp only[bz,pM t n (j+1) ls u h.2];rcases tp h.1 with e|⟨p,M,J,z,E,Y,e,O,Z,I,H,y,_,_⟩
  ·rw[e]
  ·rw[H,y];rfl
theorem xp {x:Operand}(h:∀ t,x=.tmp t->bD (st' t)=bD (st t)):ar st' x=ar st x:=by
 cases x with
 |tmp t =>
  have:=h t rfl;simp only[bD,BL]at this;simp only[ar,this.1,this.2.1,pM _ _ _ _ _ this.2.2]
 |_=>rfl
theorem yU {x:Operand}(h:∀ t,x=.tmp t->bD (st' t)=bD (st t)):one st' x=one st x:=by
 unfold one;rw[xp h]
theorem xq {c u:bL}(h:bD u=bD c)(j:Nat):jb (u.ls.getD j .dead)=jb (c.ls.getD j .dead):=by
 simp only[bD,BL]at h;have:=congrArg (λl=>l[j]?) h.2.2;simp only[CP]at this;rw[BI,BI];generalize u.ls[j]?=a at this;generalize c.ls[j]?=b at this
 match a,b,this with
 |none,none,_=>rfl
 |some x,some y,h=>exact CX h
theorem rh (l:Leaf):k6 l=(jb l).1:=by cases l <;> rfl
theorem yB {ks:List (Nat×Nat×Nat)}{ep:Nat}(h:∀ q∈EPO::ks.map (·.1),bD (st' q)=bD (st q)):bj st' ks ep=bj st ks ep:=by
 unfold bj;have z:=h EPO (AZ ..);simp only[bD,BL]at z;rw[z.1];congr 1;induction ks with
 |nil=>rfl
 |cons k ks H =>
  have y:=h k.1 (by simp);have I:(st' k.1).ver=(st k.1).ver:=by simp only[bD,BL]at y;exact y.1
  rw[B4,B4,H (λq u=>h q (by simp at u ⊢;rcases u with u|u;exact .inl u;exact .inr (.inr u))),rh,rh,xq y,I]
end
section
variable {P:Program} {V:Env} {Γ:List Ctr} {T:TypeId->TI} {st st':St} {o:Oper} {R:Type} {κ:Upd->Option R} {r:R}
theorem tq {d:Nat}(u:o.dst=some d)(h:∀ q∈eV st o,st' q=st q):st' d=st d/\st' (B0+d)=st (B0+d):=by
 refine⟨h d ?_,h (B0+d) ?_⟩ <;> simp[eV,yJ,u]
theorem kU {ls:List Leaf}(h:∀ q∈aw ls,st' q=st q):∀ x∈bq st ls,st' x.1=st x.1:=λx u=>h _ (d8 u)
theorem pN {u:List (Nat×Nat×Bool)}:∀ (ps:List (Nat×Operand)) (ls:List Leaf),(∀ x∈ps,∀ t,x.2=.tmp t->st' t=st t)->eU st' u ps ls=eU st u ps ls
 |[],_,_=>rfl
 |(i,x)::ps,ls,h=>by
  simp only[eU,dD (h (i,x) (AZ ..))];split
  ·rw[pN ps _ (λy z=>h y (AY _ z))]
  ·rfl
theorem nW {e:Ty}:∀ (ps:List (Nat×Operand)) (k:Nat),(∀ x∈ps,(∀ t,x.2=.tmp t->st' t=st t)/\∀ q∈aw (ar st x.2).2,st' q=st q)->d9 st' e k ps=d9 st e k ps
 |[],_,_=>rfl
 |(i,x)::ps,k,h=>by
  have u:=h (i,x) (AZ ..);simp only[d9,dD u.1,gD u.2,nW ps (k+1) (λy z=>h y (AY _ z))]
theorem nX {e:Ty}:∀ (ps:List (Nat×Operand)) (k:Nat) (u:ct (List e.den)),d9 st e k ps=some u->∀ z,z∈u.frz\/z∈u.kill->∃ x∈ps,z.1∈aw (ar st x.2).2
 |[],_,_,h=>by simp only[d9,AT]at h;subst h;simp
 |(i,x)::ps,k,u,h=>by
  simp only[d9]at h;cases O:BC i k&&decide ((ar st x).1=be e.isAgg) with
  |false=>simp[O]at h
  |true =>
   simp only[O,cond_true]at h;split at h
   ·rename_i t1 M Z J;simp only[AT]at h;subst h;intro z H;obtain⟨Y,p2⟩:=iC Z;have I:(z∈t1.frz\/z∈t1.kill)\/(z∈M.frz\/z∈M.kill):=by
     rcases H with H|H <;> rcases AU.1 H with H|H
     ·exact .inl (.inl H)
     ·exact .inr (.inl H)
     ·exact .inl (.inr H)
     ·exact .inr (.inr H)
    rcases I with H|H
    ·exact⟨(i,x),AZ ..,H.elim (Y z) (p2 z)⟩
    ·obtain⟨y,hy,X⟩:=nX ps (k+1) M J z H;exact⟨y,AY _ hy,X⟩
   ·cases h
theorem m9 {x:Option Operand}{n:Int}(h:∀ y,x=some y->∀ t,y=.tmp t->st' t=st t):cW st' x n=cW st x n:=by
 cases x with
 |none=>rfl
 |some y=>simp only[cW,dm (h y rfl)]
theorem uH:∀ (xs:List Operand) (u:Option (List Nat)),(∀ x∈xs,∀ t,x=.tmp t->st' t=st t) ->
  xs.foldl (λ (u:Option (List Nat)) x=>u.bind λl=>match one st' x with|.bp b 0=>some (l++[b])|_=>none) u =
  xs.foldl (λ (u:Option (List Nat)) x=>u.bind λl=>match one st x with|.bp b 0=>some (l++[b])|_=>none) u
 |[],_,_=>rfl
 |x::xs,u,h=>by
  simp only[CY,dm (h x (AZ ..))];exact uH xs _ (λy z=>h y (AY _ z))
theorem pO {l:Leaf}(y:st' TMP=st TMP)(z:st' EPO=st EPO)(h:∀ q∈aw [l],st' q=st q):cd st' l=cd st l:=by
 cases l with
 |nal p H ep u E e M =>
  rw[hH]at h;simp only[cd,jk h,y,z];congr 1
  match H,u,h with
  |[(r,j,n)],some (i,J,off),h =>
   have I:=h r (by simp);simp only[I]
  |[(r,j,n)],none,_=>rfl
  |[],_,_=>rfl
  |_::_::_,_,_=>rfl
 |_=>rfl
theorem nY {l l':Leaf}{U:Upd}(h:cd st l=some (U,l')):∃ n,l'=.al TMP 0 n/\∀ q,q≠TMP->∀ z∈ay (ac U st q).ls,z∈ay (st q).ls:=by
 cases l with
 |nal p ks ep a0 E e xs =>
  simp only[cd]at h;cases H:bj st ks ep with
  |false=>simp[H]at h
  |true =>
   rw[H]at h;simp only[cond_true]at h;split at h
   ·rename_i r j n0 i sz off;split at h
    ·rename_i X E' J O hg;cases Y:!BC r TMP&&!BC r EPO&&BC sz J.cells with
     |false=>simp[Y]at h
     |true =>
      rw[Y]at h;simp only[cond_true]at h;split at h
      ·split at h
       ·rename_i y _ _ _ _ _;simp only[AT,BL]at h;obtain⟨rfl,rfl⟩:=h;refine⟨_,rfl,λq hq z u=>?_⟩;rw[aN]at u;rcases aj r q ⟨(st r).ver,(st r).sh,aP (st r).ls j (.own X (some (i,off)) E' J O)⟩ (ac [(TMP,⟨(st TMP).ver+1,.one,[.own (X&&J.shy) none _ _ _]⟩),(EPO,bQ (st EPO))] st) with ⟨rfl,M⟩|⟨_,M⟩
        ·rw[M]at u;exact refs_set u
        ·rw[M,aN,aH hq]at u;rcases aj EPO q (bQ (st EPO)) st with ⟨rfl,Z⟩|⟨_,Z⟩ <;> rw[Z]at u <;> exact u
       ·cases h
      ·cases h
    ·cases h
   ·cases h
 |_=>simp[cd]at h
where
 refs_set {I:List Leaf} {j z:Nat} {p:Bool} {hh:Option (Nat×Nat)} {E:TypeId} {e:Ty} {xs:List e.den} (h:z∈ay (aP I j (.own p hh E e xs))):z∈ay I:=by
  unfold aP at h;induction I generalizing j with
  |nil=>simpa using h
  |cons l I ih =>
   cases j with
   |zero =>
    rw[List.set_cons_zero,db,AU]at h;rw[db,AU];rcases h with h|h
    ·simp[ay]at h
    ·exact .inr h
   |succ j =>
    rw[CM,db,AU]at h;rw[db,AU];exact h.imp id ih
theorem ud {l l':Leaf}{U:Upd}(h:cd st l=some (U,l')):ay (ac U st TMP).ls=[]:=by
 cases l with
 |nal p M ep J E e xs =>
  simp only[cd]at h;cases u:bj st M ep with
  |false=>simp[u]at h
  |true =>
   rw[u]at h;simp only[cond_true]at h;split at h
   ·rename_i r j Y i H off;split at h
    ·rename_i X Z I O hg;cases z:!BC r TMP&&!BC r EPO&&BC H I.cells with
     |false=>simp[z]at h
     |true =>
      rw[z]at h;simp only[cond_true]at h;have y:TMP≠r:=λe=>by subst e;simp at z
      split at h
      ·split at h
       ·simp only[AT,BL]at h;obtain⟨rfl,rfl⟩:=h;rw[aN,aH y,aN,bg];rfl
       ·cases h
      ·cases h
    ·cases h
   ·cases h
 |_=>simp[cd]at h
theorem vM {E:TypeId}{e:Ty}{y:Leaf}(u:∀ q∈aw [y],st' q=st q):fF st' E e y=fF st E e y:=by
 unfold fF;rw[b8 u,iQ u,gD u]
theorem vN {E:TypeId}{e:Ty}{y:Leaf}{t:ct (List e.den)}(h:fF st E e y=some t):(∀ z∈t.frz,z.1∈aw [y])/\∀ z∈t.kill,z.1∈aw [y]:=by
 unfold fF at h;cases u:e.flat with
 |true =>
  rw[u]at h;simp only[cond_true,BB]at h;obtain⟨_,_,rfl⟩:=h;exact⟨by simp,by simp⟩
 |false =>
  rw[u]at h;simp only[cond_false]at h;cases H:decide (e.sh=e) with
  |true =>
   rw[H]at h;simp only[cond_true,BB]at h;obtain⟨_,_,rfl⟩:=h;exact⟨λz I=>d8 I,by simp⟩
  |false =>
   rw[H]at h;simp only[cond_false,BB]at h;obtain⟨M,J,rfl⟩:=h;exact iC J
theorem kV {u:Upd}{d:Nat}{E:TypeId}{e:Ty}{H:Nat}{p:Bool}{xs:List e.den}{ks:List (Nat×Nat)}{y:Leaf}(O:∀ z∈ks,st' z.1=st z.1)(M:∀ q∈aw [y],st' q=st q)(Y:st' d=st d) :
  dF st' (ac u st') u d E e H p xs ks y κ=dF st (ac u st) u d E e H p xs ks y κ:=by
 unfold dF;have J:∀ q,st' q=st q->ac u st' q=ac u st q:=λq h=>bh h u
 rw[vM (st:=ac u st) (st':=ac u st') (λq Z=>J q (M q Z))];split
 ·rename_i t ht;obtain⟨X,p2⟩:=vN ht;have e1:aE (ac u st') t.frz=aE (ac u st) t.frz:=jN (λz I=>J _ (M _ (X z I)));have e2:∀ U:Upd,aL (ac U (ac u st')) (t.kill++ks)=aL (ac U (ac u st)) (t.kill++ks):=λU=>hI (λz I=>bh (J _ ((AU.1 I).elim (λI=>M _ (p2 z I)) (O z))) U)
  simp only[e1,e2,uG Y]
 ·rfl
theorem vO {H:Upd}{d:Nat}{E:TypeId}{e:Ty}{u:Nat}{x y:Leaf}(I:∀ q∈aw [x],st' q=st q)(O:∀ q∈aw [y],st' q=st q)(M:st' d=st d):dX st' H d E e u x y κ=dX st H d E e u x y κ:=by
 unfold dX;cases x with
 |al r j v =>
  have Y:st' r=st r:=I r (by simp[aw]);simp only;rw[b8 (st:=ac H st) (st':=ac H st') (l:=.al r j v) (λq X=>bh (I q X) H)];split
  ·rw[kV (λz J=>by simp at J;subst J;exact Y) O M]
  ·rfl
 |nil=>exact kV (by simp) O M
 |_=>rfl
theorem vP {d:Nat}{E:TypeId}{e:Ty}{H:Nat}{x y:Leaf}(I:st' TMP=st TMP)(J:∀ q∈aw [x],st' q=st q)(Y:∀ q∈aw [y],st' q=st q)(X:st' d=st d):hY st' d E e H x y κ=hY st d E e H x y κ:=by
 unfold hY;rw[vO J Y X,gK,gK];cases Z:iV x with
 |false=>rfl
 |true =>
  simp only[cond_true];have hE:st' EPO=st EPO:=by
   cases x with
   |nal p ks ep a0 E e xs=>exact J EPO (by rw[hH];exact AZ ..)
   |_=>simp[iV]at Z
  rw[pO I hE J];cases hu:cd st x with
  |none=>rfl
  |some u =>
   obtain⟨n,e1,_⟩:=nY (U:=u.1) (l':=u.2) hu;simp only[Bf];rw[e1];unfold dX;simp only;have e2:∀ q,q=TMP->ac u.1 st' q=ac u.1 st q:=λq M=>by rw[M];exact bh I u.1
   rw[b8 (st:=ac u.1 st) (st':=ac u.1 st') (l:=.al TMP 0 n) (λq M=>e2 q (by simpa[aw]using M))];split
   ·rw[kV (λz O=>by simp at O;subst O;exact I) Y X]
   ·rfl
structure er (st st':St) (ls:List Leaf):Prop where
 d1:∀ q∈ay ls,st' q=st q
 d2:∀ r∈ay ls,∀ q∈ay (st r).ls,st' q=st q
 d3:∀ r∈ay ls,∀ r2∈ay (st r).ls,∀ q∈ay (st r2).ls,st' q=st q
theorem kd (p:Bool):∀ (a:Ty) (x:a.den),ay (cr p a x)=[]
 |.int _,_=>rfl
 |.bool,_=>rfl
 |.str,_=>rfl
 |.unit,_=>rfl
 |.hdr,_=>rfl
 |.pair a b,x=>by simp[cr,kT,kd p a,kd p b]
 |.list _ _ _,_=>rfl
theorem ri {l:Leaf}(h:∀ q∈ay [l],st' q=st q):target st' l=target st l:=by
 unfold target;cases l with
 |bp b off =>
  have u:=h b (by simp[ay]);cases off with
  |zero=>simp only[u]
  |succ n=>rfl
 |rp p a x off=>cases off <;> rfl
 |_=>rfl
theorem kW {l:Leaf}{ls:List Leaf}(h:target st l=some ls):∀ q∈ay ls,q∈ay [l]\/∃ r∈ay [l],q∈ay (st r).ls:=by
 unfold target at h;split at h
 ·rename_i b;cases y:decide ((st b).sh=.agg) with
  |false=>simp[y]at h
  |true =>
   simp only[y,cond_true,AT]at h;subst h;intro q u;rcases m8 _ _ _ _ _ u with rfl|u
   ·exact .inl (by simp[ay])
   ·exact .inr ⟨b,by simp[ay],u⟩
 ·simp only[AT]at h;subst h;intro q u;rw[kd]at u;simp at u
 ·simp only[AT]at h;subst h;intro q u;simp[ay]at u
 ·cases h
theorem iD {x:aG×List Leaf}{q:Nat}(h:q∈ay [ce x]):q∈ay x.2:=by
 unfold ce at h;split at h
 ·exact h
 ·simp[ay]at h
theorem er.target {l:Leaf}{ls:List Leaf}(h:er st st' [l])(H:Go.Proofs.YtaegajachoklkaaGreatEv.target st l=some ls):(∀ q∈ay ls,st' q=st q)/\∀ r∈ay ls,∀ q∈ay (st r).ls,st' q=st q:=by
 constructor
 ·intro q y;rcases kW H q y with u|⟨r,u,z⟩
  ·exact h.d1 q u
  ·exact h.d2 r u q z
 ·intro r I q y;rcases kW H r I with u|⟨J,u,z⟩
  ·exact h.d2 r u q y
  ·exact h.d3 J u r z q y
theorem er.one {x:aG×List Leaf}(h:er st st' x.2):er st st' [ce x] :=
 ⟨λq y=>h.d1 q (iD y),λr u=>h.d2 r (iD u),λr u=>h.d3 r (iD u)⟩
def na {α:Type}(st st':St)(g:Got α):Prop:=(∀ z∈g.frz,st' z.1=st z.1)/\(∀ z∈g.kill,st' z.1=st z.1)
theorem nc {c:Bool×Ty}{l:Leaf}(Y:er st st' [l]):eT st' c l=eT st c l/\∀ g,eT st c l=some g->na st st' g:=by
 unfold eT;rw[ri Y.d1];cases J:target st l with
 |none=>cases c.1 <;> exact⟨rfl,by simp⟩
 |some X =>
  have y:=Y.target J;cases hc:c.1 with
  |false =>
   have u:∀ q∈aw X,st' q=st q:=λq I=>y.1 q (fj I)
   simp only[cond_false,eh u,iQ u,true_and];intro g z;simp only[BB]at z;obtain⟨_,_,rfl⟩:=z;exact⟨kU u,by simp[Got.ofRd]⟩
  |true =>
   simp only[cond_true]
   match X,y,J with
   |[],_,_=>exact⟨rfl,by simp⟩
   |_::_::_,_,_=>exact⟨rfl,by simp⟩
   |[l'],y,J =>
    simp only[ri y.1];cases O:target st l' with
    |none=>exact⟨rfl,by simp⟩
    |some H =>
     have u:∀ q∈aw H,st' q=st q:=by
      intro q I;rcases kW O q (fj I) with M|⟨r,M,Z⟩
      ·exact y.1 q M
      ·exact y.2 r M q Z
     simp only[eh u,iQ u,true_and];intro g z;simp only[BB]at z;obtain⟨_,_,rfl⟩:=z;exact⟨kU u,by simp[Got.ofRd]⟩
theorem mc:∀ (cs:List (Bool×Ty)) (ls:List Leaf),(∀ l∈ls,er st st' [l])->ch st' cs ls=ch st cs ls/\∀ g,ch st cs ls=some g->na st st' g
 |[],[],_=>⟨rfl,λg u=>by simp only[ch,AT]at u;subst u;exact⟨by simp,by simp⟩⟩
 |[],_::_,_=>⟨rfl,λg u=>by simp[ch]at u⟩
 |_::_,[],_=>⟨rfl,λg u=>by simp[ch]at u⟩
 |c::cs,l::ls,h=>by
  obtain⟨Z,J⟩:=nc (c:=c) (h l (AZ ..));obtain⟨X,h4⟩:=mc cs ls (λy hy=>h y (AY _ hy));simp only[ch,Z,X,true_and];intro g u;split at u
  ·rename_i M I;split at u
   ·rename_i Y H;simp only[AT]at u;subst u;exact⟨λz O=>(AU.1 O).elim ((J M I).1 z) ((h4 Y H).1 z),by simp⟩
   ·cases u
  ·cases u
theorem nZ {c:Nat}{q:Nat}:∀ {ls:List Leaf} {c:Nat},q∈aw (aP ls c .nil)->q∈aw ls
 |[],_,h=>h
 |l::ls,0,h=>by
  rw[show aP (l::ls) 0 .nil=.nil::ls from rfl,aK,AU]at h;rw[aK,AU];rcases h with h|h
  ·simp[aw]at h
  ·exact .inr h
 |l::ls,c+1,h=>by
  rw[show aP (l::ls) (c+1) .nil=l::aP ls c .nil from rfl,aK,AU]at h;rw[aK,AU];exact h.imp id (nZ (c:=c))
theorem oP {caps:List Nat}{f:FuncId}(H:er st st' [.clo f caps]):∀ l∈caps.map (λb=>Leaf.bp b 0),er st st' [l]:=by
 intro l J;obtain⟨b,M,rfl⟩:=BE.1 J;have u:b∈ay [Leaf.clo f caps]:=by simp[ay,M]
 have y:∀ r∈ay [Leaf.bp b 0],r=b:=λr z=>by simpa[ay]using z
 exact⟨λq I=>H.d1 q (by rw[y q I];exact u),λr z=>H.d2 r (by rw[y r z];exact u),λr z=>H.d3 r (by rw[y r z];exact u)⟩
theorem nd {caps:List (Bool×Bool×(a:Ty)×a.den)}:∀ l∈caps.map eu,er st st' [l]:=by
 intro l z;obtain⟨c,H,rfl⟩:=BE.1 z;have:∀ q,q∉ay [eu c]:=by
  intro q u;unfold eu at u;cases y:c.2.1 <;> rw[y]at u <;> simp[ay]at u
 exact⟨λq u=>absurd u (this q),λq u=>absurd u (this q),λq u=>absurd u (this q)⟩
theorem dW {pk:PK}{x:aG×List Leaf}(h:er st st' x.2):bc st' pk x=bc st pk x/\∀ g,bc st pk x=some g->na st st' g:=by
 have Z:∀ q∈aw x.2,st' q=st q:=λq M=>h.d1 q (fj M)
 have h1:=h.one;have H:∀ {b:Bool} {a:Ty} {g:Got a.den},(bif b then (b7 st a x.2).map (λt=>(⟨t.p,t.val,t.frz,t.kill,[],[]⟩:Got a.den)) else none)=some g->na st st' g:=by
  intro b a g u;cases b with
  |false=>simp at u
  |true =>
   simp only[cond_true,BB]at u;obtain⟨t,ht,rfl⟩:=u;obtain⟨p1,p2⟩:=iC ht;exact⟨λz J=>Z _ (p1 z J),λz J=>Z _ (p2 z J)⟩
 cases pk with
 |rd a =>
  simp only[bc,eh Z,iQ Z,true_and];intro g u;cases O:decide (x.1=be a.isAgg) with
  |false=>simp[O]at u
  |true =>
   simp only[O,cond_true,BB]at u;obtain⟨y,_,rfl⟩:=u;exact⟨kU Z,by simp[Got.ofRd]⟩
 |own a =>
  simp only[bc,gD Z,true_and];exact λg u=>H u
 |io a =>
  simp only[bc,gD Z,true_and];exact λg u=>H u
 |rref a=>exact nc (c:=(false,a)) h1
 |rref2 a=>exact nc (c:=(true,a)) h1
 |iop a =>
  simp only[bc];split
  ·rename_i b Y;rw[Y]at h1;have O:=h1.d1 b (by simp[ay]);have h3:∀ q∈aw (bz b (st b).ver 0 (st b).ls),st' q=st q:=by
    intro q M;rcases m7 _ _ _ _ _ M with rfl|M
    ·exact O
    ·exact h1.d2 b (by simp[ay]) q (fj M)
   simp only[O,gD h3,true_and];intro g u;cases a1:decide ((st b).sh=.agg) with
   |false=>simp[a1]at u
   |true =>
    simp only[a1,cond_true,BB]at u;obtain⟨t,ht,rfl⟩:=u;obtain⟨p1,p2⟩:=iC ht;exact⟨λz J=>h3 _ (p1 z J),λz J=>h3 _ (p2 z J)⟩
  ·exact⟨rfl,by simp⟩
 |fn As B =>
  simp only[bc,true_and];intro g u;split at u
  ·split at u
   ·simp only[AT]at u;subst u;exact⟨by simp,by simp⟩
   ·cases u
  ·cases u
 |clo f cs =>
  simp only[bc];split
  ·rename_i f' caps Y;rw[Y]at h1;have:=mc cs _ (oP h1);rw[this.1];refine⟨rfl,λg u=>?_⟩;cases O:BC f' f with
   |false=>simp[O]at u
   |true=>rw[O]at u;exact this.2 g u
  ·rename_i f' caps Y;have:=mc (st:=st) (st':=st') cs _ (nd (caps:=caps));rw[this.1];refine⟨rfl,λg u=>?_⟩;cases O:BC f' f with
   |false=>simp[O]at u
   |true=>rw[O]at u;exact this.2 g u
  ·exact⟨rfl,by simp⟩
 |hol a c off =>
  simp only[bc];have X:∀ q∈aw (aP x.2 c .nil),st' q=st q:=λq M=>Z q (nZ (c:=c) M)
  rw[gD X];cases O:decide (x.1=be a.isAgg) with
  |false=>exact⟨rfl,by simp⟩
  |true =>
   simp only[cond_true];split
   ·rename_i r j v I;have a2:x.2[c]?=some (.al r j v):=by
     rw[BI]at I;cases M:x.2[c]? with
     |none=>rw[M]at I;simp at I
     |some l0=>rw[M]at I;simp at I;rw[I]
    have hr:=λq M=>Z q (qq a2 q M)
    rw[b8 hr];refine⟨rfl,λg u=>?_⟩;split at u
    ·rename_i p i o' E e xs _;cases a0:BC o' off with
     |false=>simp[a0]at u
     |true =>
      rw[a0]at u;simp only[cond_true]at u;split at u
      ·rename_i t ht;split at u
       ·simp only[AT]at u;subst u;obtain⟨p1,p2⟩:=iC ht;refine⟨λz J=>X _ (p1 z J),λz J=>?_⟩;rcases BH.1 J with rfl|J
        ·exact hr r (by simp[aw])
        ·exact X _ (p2 z J)
       ·cases u
      ·cases u
    ·cases u
   ·exact⟨rfl,by simp⟩
theorem ke {ga ga':(pk:PK)->aG×List Leaf->Option (Got pk.den)}:∀ (ps:List PK) (xs:List (aG×List Leaf)),
  (∀ x∈xs,∀ pk,ga' pk x=ga pk x/\∀ g,ga pk x=some g->na st st' g) ->
  aY ga' ps xs=aY ga ps xs/\∀ g,aY ga ps xs=some g->na st st' g
 |[],[],_=>⟨rfl,λg u=>by simp only[aY,AT]at u;subst u;exact⟨by simp,by simp⟩⟩
 |[],_::_,_=>⟨rfl,λg u=>by simp[aY]at u⟩
 |_::_,[],_=>⟨rfl,λg u=>by simp[aY]at u⟩
 |p::ps,x::xs,h=>by
  obtain⟨h1,M⟩:=h x (AZ ..) p;obtain⟨Z,Y⟩:=ke ps xs (λy hy=>h y (AY _ hy));simp only[aY,h1,Z,true_and];intro g u;split at u
  ·rename_i O I;split at u
   ·rename_i X H;simp only[AT]at u;subst u;exact⟨λz J=>(AU.1 J).elim ((M O I).1 z) ((Y X H).1 z),λz J=>(AU.1 J).elim ((M O I).2 z) ((Y X H).2 z)⟩
   ·cases u
  ·cases u
theorem tr {H:List Ty}{B:Ty}{f:FuncId}{ls:List Leaf}(h:∀ l∈ls,er st st' [l]):kg Γ st' H B f ls=kg Γ st H B f ls/\∀ g,kg Γ st H B f ls=some g->na st st' g:=by
 have u:=λ (q:List PK)=>ke (st:=st) (st':=st') (ga:=bc st) (ga':=bc st') q (ls.map λl=>(aG.one,[l])) (λy M Y=>by
  obtain⟨l,O,rfl⟩:=BE.1 M;exact dW (h l O))
 unfold kg;split
 ·rename_i c X;unfold rI;simp only[ug,(u _).1,true_and];intro g z;split at z
  ·cases J:(c.ps.drop H.length).all PK.reads&&B.flat&&c.fresh with
   |false=>simp[J]at z
   |true =>
    simp only[J,cond_true]at z;split at z
    ·rename_i g0 I;simp only[AT]at z;subst z;exact⟨((u _).2 g0 I).1,by simp⟩
    ·cases z
  ·cases z
 ·exact⟨rfl,by simp⟩
theorem vQ {pk:PK}{x:aG×List Leaf}(h:er st st' x.2):bW Γ st' pk x=bW Γ st pk x/\∀ g,bW Γ st pk x=some g->na st st' g:=by
 cases pk with
 |fn O B =>
  simp only[bW];split
  ·rename_i z y;have H:(∃ u,ce x=.clo z.1 u/\z.2=u.map λb=>Leaf.bp b 0)\/∃ u,ce x=.clr z.1 u/\z.2=u.map eu:=by
    generalize ce x=l at y;cases l <;> simp only[uR,AT,reduceCtorEq]at y
    ·subst y;exact .inl ⟨_,rfl,rfl⟩
    ·subst y;exact .inr ⟨_,rfl,rfl⟩
   have J:=h.one;rcases H with ⟨u,H,I⟩|⟨u,H,I⟩
   ·rw[H]at J;rw[I];exact tr (oP J)
   ·rw[I];exact tr nd
  ·exact dW h
 |rd a=>exact dW (pk:=.rd a) h
 |own a=>exact dW (pk:=.own a) h
 |io a=>exact dW (pk:=.io a) h
 |rref a=>exact dW (pk:=.rref a) h
 |rref2 a=>exact dW (pk:=.rref2 a) h
 |iop a=>exact dW (pk:=.iop a) h
 |clo f M=>exact dW (pk:=.clo f M) h
 |hol a c off=>exact dW (pk:=.hol a c off) h
theorem tt:∀ (u ls:List Leaf),st' EPO=st EPO->(∀ q∈ay u,st' q=st q)->bV st' u ls=bV st u ls
 |[],_,_,_=>by simp[bV]
 |x::u,[],_,_=>by cases x <;> simp[bV]
 |x::u,l::ls,z,h=>by
  have y:=tt u ls z (λq H=>h q (by rw[db];exact AX _ H));cases x with
  |al r j v =>
   have I:st' r=st r:=h r (by simp[ay]);simp only[bV,y,bh I,bh z]
  |_=>simp only[bV,y]
theorem pP {p:Bool}:∀ (ps:List PK) (xs:List (aG×List Leaf)) (y:ag ps),st' EPO=st EPO->(∀ x∈xs,∀ q∈ay x.2,st' q=st q)->aF st' p ps xs y=aF st p ps xs y
 |[],_,_,_,_=>by simp[aF]
 |I::ps,[],y,_,h=>by cases I <;> simp[aF]
 |I::ps,x::xs,y,O,h=>by
  have u:=λ (y:ag ps)=>pP (p:=p) ps xs y O (λz Y=>h z (AY _ Y))
  have M:=h x (AZ ..);cases I with
  |io a =>
   simp only[aF,u];rw[tt x.2 _ (bh O _) (λq J=>bh (M q J) _)]
  |iop a =>
   simp only[aF,u];have X:∀ q∈ay [ce x],st' q=st q:=λq J=>M q (iD J)
   congr 1;split
   ·rename_i b v H;rw[H]at X;rw[bh (X b (by simp[ay]))]
   ·rfl
  |_=>exact u _
theorem pQ {n q:Nat}:∀ {ls:List Leaf} {k:Nat},q∈ay (aP ls k (.al TMP 0 n))->q∈ay ls\/q=TMP
 |[],_,h=>.inl h
 |l::ls,0,h=>by
  rw[show aP (l::ls) 0 (.al TMP 0 n)=.al TMP 0 n::ls from rfl,db,AU]at h;rw[db,AU];rcases h with h|h
  ·simp[ay]at h;exact .inr h
  ·exact .inl (.inr h)
 |l::ls,k+1,h=>by
  rw[show aP (l::ls) (k+1) (.al TMP 0 n)=l::aP ls k (.al TMP 0 n) from rfl,db,AU]at h;rw[db,AU];rcases h with h|h
  ·exact .inl (.inl h)
  ·exact (pQ h).imp .inr id
theorem oQ {U:Upd}{M ls:List Leaf}(hT:st' TMP=st TMP)(u:∀ q,q≠TMP->∀ z∈ay (ac U st q).ls,z∈ay (st q).ls)(X:ay (ac U st TMP).ls=[])(Z:er st st' M)(I:∀ q∈ay ls,q∈ay M\/q=TMP) :
  er (ac U st) (ac U st') ls:=by
 have H:∀ r z,z∈ay (ac U st r).ls->r≠TMP:=λr z hz e=>by subst e;rw[X]at hz;simp at hz
 refine⟨λq y=>?_,λr hr q y=>?_,λr hr Y J q y=>?_⟩
 ·rcases I q y with h|h
  ·exact bh (Z.d1 q h) U
  ·subst h;exact bh hT U
 ·have O:=H r q y;exact bh (Z.d2 r ((I r hr).resolve_right O) q (u r O q y)) U
 ·have O:=H r Y J;have h2:=H Y q y;exact bh (Z.d3 r ((I r hr).resolve_right O) Y (u r O Y J) q (u Y h2 q y)) U
theorem n9 (Z:st' TMP=st TMP)(hE:st' EPO=st EPO):∀ (ps:List PK) (xs:List (aG×List Leaf)),(∀ x∈xs,er st st' x.2)->cI st' ps xs=cI st ps xs /\
  ∀ (U:Upd) (X:List (aG×List Leaf)) (b:Option (Bool×Nat×Nat)),cI st ps xs=some (U,X,b)->(∀ y∈X,er (ac U st) (ac U st') y.2)/\(∀ f r j,b=some (f,r,j)->st' r=st r)/\∀ ls,er st st' ls->er (ac U st) (ac U st') ls
 |[],xs,h=>⟨rfl,λU X b z=>by
   simp only[cI,AT,BL]at z;obtain⟨rfl,rfl,rfl⟩:=z;exact⟨h,(λ_ _ _ h=>by cases h),λ_ h=>h⟩⟩
 |_::_,[],h=>⟨rfl,λU X b z=>by
   simp only[cI,AT,BL]at z;obtain⟨rfl,rfl,rfl⟩:=z;exact⟨h,(λ_ _ _ h=>by cases h),λ_ h=>h⟩⟩
 |p::ps,x::xs,h=>by
  have hx:=h x (AZ ..);obtain⟨i1,i2⟩:=n9 Z hE ps xs (λy M=>h y (AY _ M));simp only[cI];cases hk:p.nest x.2 with
  |none =>
   simp only[i1,true_and];intro U X b z;simp only[BB]at z;obtain⟨u,O,z⟩:=z;simp only[BL]at z;obtain⟨rfl,rfl,rfl⟩:=z;obtain⟨j1,j2,j3⟩:=i2 u.1 u.2.1 u.2.2 O;refine⟨λy M=>?_,j2,j3⟩;rcases BH.1 M with rfl|M
   ·exact j3 _ hx
   ·exact j1 y M
  |some k =>
   obtain⟨l,a0,a1⟩:=qY hk;have hg:x.2.getD k .dead=l:=by rw[BI,a0];rfl
   have Y:∀ q∈aw [l],st' q=st q:=λq J=>hx.d1 q (fj (qq a0 q J))
   simp only[hg,pO Z hE Y,true_and];intro U X b z;simp only[BB]at z;obtain⟨u,O,z⟩:=z;simp only[BL]at z;obtain⟨rfl,rfl,rfl⟩:=z;obtain⟨n,e1,I⟩:=nY (U:=u.1) (l':=u.2) O;have H:=ud (U:=u.1) (l':=u.2) O;refine⟨λy M=>?_,λf r j hb=>?_,λls a2=>oQ Z I H a2 (λq J=>.inl J)⟩
   ·rcases BH.1 M with rfl|M
    ·refine oQ Z I H hx λq J=>?_
     have J:q∈ay (aP x.2 k u.2):=J;rw[e1]at J;exact pQ J
    ·exact oQ Z I H (h y (AY _ M)) (λq J=>.inl J)
   ·simp only[AT,BL]at hb;have hr:r=(jI l).1:=by rw[hb.2]
    rw[hr];refine Y _ ?_;cases l with
    |nal p ks ep a3 E e xs =>
     cases ks with
     |nil =>
      exfalso;simp only[cd]at O;cases hv:bj st [] ep <;> simp[hv]at O
     |cons k ks=>rw[hH];simp[jI]
    |_=>simp[iV]at a1
theorem yC {b:Option (Bool×Nat×Nat)}{U:Upd}(z:st' TMP=st TMP)(u:st' EPO=st EPO)(y:∀ f r j,b=some (f,r,j)->st' r=st r):jx st' b U κ=jx st b U κ:=by
 unfold jx;split
 ·rename_i r j;rw[bh (y true r j rfl),bh z,bh u]
 ·rfl
theorem tu {d:Nat}{f:FuncId}{xs:List (aG×List Leaf)}(hT:st' TMP=st TMP)(X:st' EPO=st EPO)(hx:∀ x∈xs,er st st' x.2)(hd:st' d=st d)(hB:st' (B0+d)=st (B0+d)):iW Γ st' d f xs κ=iW Γ st d f xs κ:=by
 unfold iW;split
 ·rename_i c hc;obtain⟨n1,n2⟩:=n9 hT X c.ps xs hx;rw[gh,gh,n1];cases hn:cI st c.ps xs with
  |none=>rfl
  |some u =>
   obtain⟨H,O,b⟩:=u;obtain⟨m1,m2,_⟩:=n2 H O b hn;simp only[Bf];have hg:=ke (st:=ac H st) (st':=ac H st') (ga:=bW Γ (ac H st)) (ga':=bW Γ (ac H st')) c.ps O (λx I pk=>vQ (m1 x I));simp only[oh,hg.1];split
   ·rename_i g Z;obtain⟨h1,h2⟩:=hg.2 g Z;have J:gp st' d c.rs=gp st d c.rs:=by
     unfold gp;split
     ·rw[hB]
     ·rfl
    have hL:∀ q,ac H st' q=ac H st q->∀ U,ac (U++H) st' q=ac (U++H) st q:=λq h U=>by rw[br,br];exact bh h U
    have a0:(bif c.fresh then [] else aE (ac H st') g.frz)=(bif c.fresh then [] else aE (ac H st) g.frz):=by rw[jN h1]
    have hk:∀ (U:Upd),aL (ac U (ac H st')) g.kill=aL (ac U (ac H st)) g.kill:=λU=>hI (λz hz=>bh (h2 z hz) U)
    have ho:∀ (U:Upd) (p:Bool) (y:ag c.ps),aF (ac (U++H) st') p c.ps O y=aF (ac (U++H) st) p c.ps O y:=λU p y =>
     pP c.ps O y (hL _ (bh X H) U) (λx I q hq=>hL _ ((m1 x I).d1 q hq) U)
    have M:∀ (U:Upd),(g.frz.map λk=>(k.1,k.2,(ac (U++H) st' k.1).ver))=g.frz.map λk=>(k.1,k.2,(ac (U++H) st k.1).ver):=λU=>CG λz hz=>by rw[hL _ (h1 z hz) U]
    have Y:∀ U,ac U st' d=ac U st d:=λU=>bh hd U
    have a2:∀ U,ac U st' (B0+d)=ac U st (B0+d):=λU=>bh hB U
    have a1:∀ U,ac U st' EPO=ac U st EPO:=λU=>bh X U
    simp only[J,a0,hk,ho,Y,a2,a1,<- BX,M,yC hT X m2]
   ·rfl
 ·rfl
theorem rj:∀ (u:List Ty) (xs:List (aG×List Leaf)),(∀ x∈xs,∀ q∈aw x.2,st' q=st q)->ip st' u xs=ip st u xs
 |[],[],_=>rfl
 |[],_::_,_=>rfl
 |_::_,[],_=>rfl
 |a::u,x::xs,h=>by
  simp only[ip,eh (h x (AZ ..)),rj u xs (λy z=>h y (AY _ z))]
theorem vR {r j i off n:Nat}{p:Bool}{E:TypeId}{e:Ty}{xs:List e.den}{h:Option (Nat×Nat)}{ls:List Leaf}(X:st' r=st r)(J:st' EPO=st EPO)(H:∀ q∈aw ls,st' q=st q):gq st' r j i off n p E e xs h ls κ=gq st r j i off n p E e xs h ls κ:=by
 unfold gq;congr 1;funext u;rw[oN e 0 u ls H];split
 ·rename_i t Z;obtain⟨I,O⟩:=oO e 0 u ls t Z;have Y:aE st' t.frz=aE st t.frz:=jN (λz y=>H _ (I z y));have M:∀ U:Upd,aL (ac U st') t.kill=aL (ac U st) t.kill:=λU=>hI (λz y=>bh (H _ (O z y)) U)
  simp only[Y,M,X,bh J]
 ·rfl
end
section
variable {P:Program} {V:Env} {Γ:List Ctr} {T:TypeId->TI} {st st':St} {o:Oper} {R:Type} {κ:Upd->Option R} {r:R}
theorem de {H:List Nat}(h:∀ q∈H++H.flatMap (λt=>aw (st t).ls),st' q=st q){x:Operand}(z:∀ t,x=.tmp t->t∈H):(∀ t,x=.tmp t->st' t=st t)/\∀ q∈aw (ar st x).2,st' q=st q:=by
 refine⟨λt y=>h t (AW _ (z t y)),λq u=>?_⟩;obtain⟨t,y,u⟩:=re u;rcases u with rfl|u
 ·exact h q (AW _ (z q y))
 ·exact h q (AX _ (BM.2 ⟨t,z t y,u⟩))
theorem ne {H:List Nat}(h:∀ q∈H++H.flatMap (λt=>ay (st t).ls),st' q=st q){x:Operand}(z:∀ t,x=.tmp t->t∈H):(∀ t,x=.tmp t->st' t=st t)/\∀ q∈ay (ar st x).2,st' q=st q:=by
 refine⟨λt y=>h t (AW _ (z t y)),λq u=>?_⟩;obtain⟨t,y,u⟩:=rg u;rcases u with rfl|u
 ·exact h q (AW _ (z q y))
 ·exact h q (AX _ (BM.2 ⟨t,z t y,u⟩))
theorem pR {y:List Nat}(h:∀ q∈ki st y,st' q=st q){x:Operand}(X:∀ t,x=.tmp t->t∈y):er st st' (ar st x).2:=by
 have J:∀ q,q∈y->st' q=st q:=λq u=>h q (by simp[ki];exact .inl u)
 have ha:∀ q,q∈y.flatMap (λt=>ay (st t).ls)->st' q=st q:=λq u=>h q (by
  unfold ki;exact AW _ (AW _ (AX _ u)))
 have Y:∀ q,q∈(y.flatMap (λt=>ay (st t).ls)).flatMap (λt=>ay (st t).ls)->st' q=st q:=λq u=>h q (by
  unfold ki;exact AW _ (AX _ u))
 have hc:∀ q,q∈((y.flatMap (λt=>ay (st t).ls)).flatMap (λt=>ay (st t).ls)).flatMap (λt=>ay (st t).ls)->st' q=st q:=λq u=>h q (by
  unfold ki;exact AX _ u)
 have Z:∀ r∈ay (ar st x).2,r∈y\/r∈y.flatMap (λt=>ay (st t).ls):=by
  intro r H;obtain⟨t,ht,u⟩:=rg H;rcases u with rfl|u
  ·exact .inl (X r ht)
  ·exact .inr (BM.2 ⟨t,X t ht,u⟩)
 have O:∀ r∈ay (ar st x).2,∀ q∈ay (st r).ls,q∈y.flatMap (λt=>ay (st t).ls)\/q∈(y.flatMap (λt=>ay (st t).ls)).flatMap (λt=>ay (st t).ls):=by
  intro r H q u;rcases Z r H with z|z
  ·exact .inl (BM.2 ⟨r,z,u⟩)
  ·exact .inr (BM.2 ⟨r,z,u⟩)
 refine⟨λq u=>(Z q u).elim (J q) (ha q),λr H q u=>(O r H q u).elim (ha q) (Y q),λr H M I q u=>?_⟩;rcases O r H M I with z|z
 ·exact Y q (BM.2 ⟨M,z,u⟩)
 ·exact hc q (BM.2 ⟨M,z,u⟩)
theorem a8 {xs:Array Operand}{x:Operand}(h:x∈xs):∀ t,x=.tmp t->t∈hZ xs.toList:=λt e=>ra (by rw[<- e];simpa using h)
theorem op_fr (h:∀ q∈eV st o,st' q=st q)(H:∀ x,o.op≠.move x)(z:∀ t x i,o.op≠.indexAddr t x i):∀ q∈cf st o.op,st' q=st q:=λq y=>h q (by
 unfold eV;refine AW _ ?_;cases u:o.op with
 |move x=>exact absurd u (H x)
 |indexAddr t x i=>exact absurd u (z t x i)
 |_=>rw[u]at y;exact y)
theorem zR {α β:Type}{xs:List α}{n:Int}{K:Option β}:((idx xs n).bind λ_=>K)=if 0<=n/\n<xs.length then K else none:=by
 unfold idx;by_cases u:n<0
 ·rw[if_pos u,if_neg (by omega)];rfl
 ·rw[if_neg u];by_cases y:n.toNat<xs.length
  ·rw[BK y,if_pos (by omega)];rfl
  ·rw[CA (by omega),if_neg (by omega)];rfl
theorem AI (h:∀ q∈eV st o,st' q=st q)(hh:∀ q∈eC st o.op,bD (st' q)=bD (st q)):act Γ T o st' κ=act Γ T o st κ:=by
 have M:=op_fr h;have a0:∀ (U:Upd) (d:Nat) (sh:aG) (ls:List Leaf),o.dst=some d->bZ st' U d sh ls=bZ st U d sh ls:=λU d sh ls hd=>uG (tq hd h).1
 have hB:∀ d,o.dst=some d->st' (B0+d)=st (B0+d):=λd hd=>(tq hd h).2
 have hw:∀ (sh:aG) (ls:List Leaf),wrU o st' κ sh ls=wrU o st κ sh ls:=by
  intro sh ls;unfold wrU;split
  ·rename_i d hd;rw[a0 _ _ _ _ hd]
  ·rfl
 cases I:o.op with
 |move x =>
  simp only[I,eC]at hh;have e:ar st' x=ar st x:=xp λt Y=>hh t (a8 (by simp[Op.operands]) t Y)
  simp only[act,I,e,hw]
 |assign x =>
  have H:=M (by simp[I]) (by simp[I]);simp only[I,cf]at H;have J:=de H (x:=x) (a8 (by simp[Op.operands]));have e:ar st' x=ar st x:=dD J.1;simp only[act,I,e,qs J.2,oM J.2,tm J.2];split
  ·rename_i d hd;rw[a0 _ _ _ _ hd]
  ·rfl
 |pick c x y =>
  have H:=M (by simp[I]) (by simp[I]);simp only[I,cf]at H;have e1:one st' c=one st c:=dm λt Y=>H t (a8 (by simp[Op.operands]) t Y)
  have e2:ar st' x=ar st x:=dD λt Y=>H t (a8 (by simp[Op.operands]) t Y)
  have e3:ar st' y=ar st y:=dD λt Y=>H t (a8 (by simp[Op.operands]) t Y)
  simp only[act,I,e1,e2,e3,hw]
 |alloc t =>
  simp only[act,I];split
  ·rename_i d hd;rw[a0 _ _ _ _ hd,hB d hd]
  ·rfl
 |box t x =>
  have H:=M (by simp[I]) (by simp[I]);simp only[I,cf]at H;have J:=de H (x:=x) (a8 (by simp[Op.operands]));have e:ar st' x=ar st x:=dD J.1;have b1:rV st' x=rV st x:=by cases x <;> first|rfl|(simp only[rV];rw[J.1 _ rfl])
  simp only[act,I,e,qs J.2,oM J.2,tm J.2,b1];split
  ·rename_i d hd;simp only[a0 _ _ _ _ hd,hB d hd,bh (hB d hd)]
  ·rfl
 |build t a2 =>
  have H:=M (by simp[I]) (by simp[I]);simp only[I,cf]at H;have hb:∀ a6 ls,eU st' a6 a2.toList ls=eU st a6 a2.toList ls:=λa6 ls=>pN _ _ (λx J t Y=>H t (a8 (by simp only[Op.operands,CS,BE];exact⟨x,J,rfl⟩) t Y))
  simp only[act,I,hw,hb]
 |buildSlice t n a2 =>
  have H:=M (by simp[I]) (by simp[I]);simp only[I,cf]at H;have J:∀ x∈a2.toList,(∀ t,x.2=.tmp t->st' t=st t)/\∀ q∈aw (ar st x.2).2,st' q=st q:=λx J =>
   de H (a8 (by simp only[Op.operands,CS,BE];exact⟨x,J,rfl⟩))
  simp only[act,I];split
  ·rw[nW _ _ J];split
   ·rename_i u bl;have bb:=nX _ _ _ bl;have b2:∀ z,z∈u.frz\/z∈u.kill->st' z.1=st z.1:=λz hz=>by
     obtain⟨x,c3,b9⟩:=bb z hz;exact (J x c3).2 _ b9
    have e1:aE st' u.frz=aE st u.frz:=jN λz hz=>b2 z (.inl hz)
    have e2:∀ U:Upd,aL (ac U st') u.kill=aL (ac U st) u.kill:=λU=>hI (λz hz=>bh (b2 z (.inr hz)) U)
    simp only[e1,e2];congr 1;split
    ·rename_i d hd;rw[a0 _ _ _ _ hd]
    ·rfl
   ·rfl
  ·rfl
 |load t x =>
  have H:=M (by simp[I]) (by simp[I]);simp only[I,cf]at H;have J:=ne H (x:=x) (a8 (by simp[Op.operands]));have e:one st' x=one st x:=dm J.1;have X:∀ q∈ay [one st x],st' q=st q:=λq O=>J.2 q (tn O)
  simp only[act,I,e,hw];congr 1;split
  ·rfl
  ·rename_i b off Z;rw[Z]at X;rw[X b (by simp[ay])]
  ·rfl
  ·rename_i p ks ep a y off Z;rw[Z]at X;rw[jk (λq O=>X q (by simpa[ay]using O))]
  ·rename_i r j v i sz off Z;rw[Z]at X;rw[b8 (l:=.al r j v) (λq O=>X q (by simp[aw]at O;simp[ay,O])),X EPO (by simp[ay])]
  ·rfl
 |store t x y =>
  have H:=M (by simp[I]) (by simp[I]);simp only[I,cf]at H;have J:=ne H (x:=x) (a8 (by simp[Op.operands]));have hy:=ne H (x:=y) (a8 (by simp[Op.operands]));have e:one st' x=one st x:=dm J.1;have e2:ar st' y=ar st y:=dD hy.1;have X:∀ q∈ay [one st x],st' q=st q:=λq O=>J.2 q (tn O)
  have ad:∀ q∈aw (ar st y).2,st' q=st q:=λq O=>hy.2 q (fj O)
  simp only[act,I,e,e2,qs ad,oM ad,tm ad];split
  ·rfl
  ·congr 1;split
   ·rename_i b off Z;rw[Z]at X;have hb:=X b (by simp[ay]);simp only[hb,bh hb]
   ·rename_i r j v i sz off Z;rw[Z]at X;have ba:=X r (by simp[ay]);rw[b8 (l:=.al r j v) (λq O=>X q (by simp[aw]at O;simp[ay,O]))];split
    ·rw[vR ba (X EPO (by simp[ay])) ad]
    ·rfl
   ·rfl
 |nilCheck x =>
  have H:=M (by simp[I]) (by simp[I]);simp only[I,cf]at H;have J:=de H (x:=x) (a8 (by simp[Op.operands]));have e:one st' x=one st x:=dm J.1;have X:∀ q∈aw [one st x],st' q=st q:=λq O=>J.2 q (iT O)
  simp only[act,I,e,hw];split
  ·rfl
  ·rfl
  ·rename_i r j v i sz off Z;rw[Z]at X;rw[X r (by simp[aw])]
  ·rfl
  ·rename_i p ks ep a y off Z;rw[Z,uF]at X;rw[jk X]
  ·rfl
 |binOp op t x y t' =>
  have H:=M (by simp[I]) (by simp[I]);simp only[I,cf]at H;have J:=de H (x:=x) (a8 (by simp[Op.operands]));have hy:=de H (x:=y) (a8 (by simp[Op.operands]));have e1:one st' x=one st x:=dm J.1;have e2:one st' y=one st y:=dm hy.1;have e3:ar st' x=ar st x:=dD J.1;have e4:ar st' y=ar st y:=dD hy.1;simp only[act,I,e1,e2,e3,e4,hw,eh J.2,eh hy.2]
 |unOp op t x =>
  have H:=M (by simp[I]) (by simp[I]);simp only[I,cf]at H;have e1:one st' x=one st x:=dm λt Y=>H t (a8 (by simp[Op.operands]) t Y)
  simp only[act,I,e1,hw]
 |convert s t x =>
  have H:=M (by simp[I]) (by simp[I]);simp only[I,cf]at H;have J:=de H (x:=x) (a8 (by simp[Op.operands]));have e1:one st' x=one st x:=dm J.1;have X:∀ q∈aw [one st x],st' q=st q:=λq O=>J.2 q (iT O)
  simp only[act,I,e1,hw];split
  ·rfl
  ·rw[b8 X]
  ·rfl
  ·rfl
 |makeSlice t n c =>
  have H:=M (by simp[I]) (by simp[I]);simp only[I,cf]at H;have e1:one st' n=one st n:=dm λt Y=>H t (a8 (by simp[Op.operands]) t Y)
  have e2:one st' c=one st c:=dm λt Y=>H t (a8 (by simp[Op.operands]) t Y)
  simp only[act,I,e1,e2,hw]
 |slice t x lo hi mx =>
  have H:=M (by simp[I]) (by simp[I]);simp only[I,cf]at H;have hE:=H EPO (AZ ..);have H:=λq O=>H q (AY _ O)
  have J:=de H (x:=x) (a8 (by simp[Op.operands]));have bn:∀ n,cW st' lo n=cW st lo n:=λn=>m9 λy hy t Y=>H t (AW _ (a8 (by simp[Op.operands,hy]) t Y))
  have c1:∀ n,cW st' hi n=cW st hi n:=λn=>m9 λy hy t Y=>H t (AW _ (a8 (by simp[Op.operands,hy]) t Y))
  have e:one st' x=one st x:=dm J.1;have X:∀ q∈aw [one st x],st' q=st q:=λq O=>J.2 q (iT O)
  have c0:∀ m,mx=some m->cW st' (some m) 0=cW st (some m) 0:=λm hm=>m9 λy hy t Y=>H t (AW _ (a8 (by simp[Op.operands,hm,CX hy]) t Y))
  simp only[act,I,e,bn,c1,b8 X,hE];cases hd:o.dst with
  |none=>cases mx <;> rfl
  |some d =>
   cases mx with
   |none=>simp only[a0 _ _ _ _ hd]
   |some m =>
    simp only[c0 m rfl];split
    ·rename_i r j v _ Z _;rw[Z]at X;rw[b8 X,hI (st:=st) (st':=st') (λz hz=>by simp at hz;subst hz;exact X _ (by simp[aw]))];simp only[a0 _ _ _ _ hd]
    ·rfl
 |fieldAddr t x f =>
  have H:=M (by simp[I]) (by simp[I]);simp only[I,cf]at H;have J:=de H (x:=x) (a8 (by simp[Op.operands]));have e:one st' x=one st x:=dm J.1;have X:∀ q∈aw [one st x],st' q=st q:=λq O=>J.2 q (iT O)
  simp only[act,I,e,hw];split
  ·split
   ·split
    ·rfl
    ·rfl
    ·rename_i r j v i sz off Z;rw[Z]at X;rw[X r (by simp[aw])]
    ·rename_i p ks ep a y o' Z;rw[Z,uF]at X;rw[jk X]
    ·rfl
   ·rfl
  ·rfl
 |field t x f =>
  have H:=M (by simp[I]) (by simp[I]);simp only[I,cf]at H;have e1:ar st' x=ar st x:=dD λt Y=>H t (a8 (by simp[Op.operands]) t Y)
  simp only[act,I,e1,hw]
 |indexAddr t x i =>
  simp only[I,eC]at hh;have b3:∀ y∈(Op.indexAddr t x i).operands,∀ t,y=.tmp t->bD (st' t)=bD (st t):=λy hy t Y=>hh t (AW _ (a8 hy t Y))
  have e:one st' x=one st x:=yU (b3 x (by simp[Op.operands]));have e2:one st' i=one st i:=yU (b3 i (by simp[Op.operands]));have X:∀ q∈aw [one st x],bD (st' q)=bD (st q):=λq O=>by
   obtain⟨t',bx,O⟩:=re (iT O);have a5:=a8 (xs:=(Op.indexAddr t x i).operands) (x:=x) (by simp[Op.operands]) t' bx;rcases O with rfl|O
   ·exact hh q (AW _ a5)
   ·exact hh q (AX _ (BM.2 ⟨t',a5,O⟩))
  simp only[act,I,e,e2,hw];split
  ·split
   ·rfl
   ·split
    ·rename_i r j v Z;rw[Z]at X;have O:=X r (by simp[aw]);have hv:(st' r).ver=(st r).ver:=by simp only[bD,BL]at O;exact O.1
     simp only[aD,hv];cases BC (st r).ver v with
     |false=>rfl
     |true =>
      simp only[cond_true];rcases tp (xq O j) with e3|⟨p,p',h1,h2,E1,E2,e',c5,xs,c4,e3,e4,e5,e6⟩
      ·rw[e3]
      ·rw[e3,e4];simp only[oV,e5,zR,e6]
    ·rfl
    ·rename_i p ks ep c6 E' e' xs Z;rw[Z,hH]at X;rw[yB X]
    ·rfl
   ·rfl
  ·rfl
 |index t x i =>
  have H:=M (by simp[I]) (by simp[I]);simp only[I,cf]at H;have J:=de H (x:=x) (a8 (by simp[Op.operands]));have e1:one st' x=one st x:=dm J.1;have e2:one st' i=one st i:=dm (de H (x:=i) (a8 (by simp[Op.operands]))).1;have e3:ar st' x=ar st x:=dD J.1;simp only[act,I,e1,e2,e3,hw,λe n=>mZ (e:=e) n _ J.2]
 |extract x i =>
  have H:=M (by simp[I]) (by simp[I]);simp only[I,cf]at H;have e1:ar st' x=ar st x:=dD λt Y=>H t (a8 (by simp[Op.operands]) t Y)
  simp only[act,I,e1,hw]
 |makeFunc fn first a3 =>
  have H:=M (by simp[I]) (by simp[I]);simp only[I,cf]at H;cases fn with
  |func f =>
   have:rX st' a3.toList=rX st a3.toList:=uH (st:=st) (st':=st') a3.toList (some []) (λx J t Y=>H t (a8 (by simp[Op.operands];exact .inr (by simpa using J)) t Y));simp only[act,I,hw,this]
  |_=>simp only[act,I]
 |call c =>
  have H:=M (by simp[I]) (by simp[I]);simp only[I,cf]at H;simp only[act,I];split
  ·rfl
  ·rename_i d hd;obtain⟨b0,b5⟩:=tq hd h;cases hc:c.callee with
   |value f =>
    simp only[hc]at H;have hT:=H TMP (AZ ..);have hE:=H EPO (AY _ (AZ ..));have H:=λq O=>H q (AY _ (AY _ O))
    have b4:f∈(Op.call c).operands:=by simp[Op.operands,Call.operands,hc]
    have a9:∀ x∈c.args.toList,x∈(Op.call c).operands:=λx J=>by
     simp only[Op.operands,Call.operands,hc,CT];exact .inr (by simpa using J)
    have a5:∀ x∈(Op.call c).operands,∀ t,x=.tmp t->st' t=st t:=λx J t Y=>H t (by
     unfold ki;exact AW _ (AW _ (AW _ (a8 J t Y))))
    have e1:one st' f=one st f:=dm (a5 f b4);have e2:c.args.toList.map (ar st')=c.args.toList.map (ar st):=CG λx J=>dD (a5 x (a9 x J))
    have a4:∀ x∈c.args.toList.map (ar st),er st st' x.2:=by
     intro x J;obtain⟨y,hy,rfl⟩:=BE.1 J;exact pR H (a8 (a9 y hy))
    simp only[e1,e2];split
    ·rename_i g a3 Z;refine tu hT hE ?_ b0 b5;intro x J;rcases AU.1 J with J|J
     ·exact a4 x J
     ·obtain⟨b,hb,rfl⟩:=BE.1 J;have hf:=pR H (a8 b4);rw[qt Z (by simp)]at hf;exact oP hf _ (BE.2 ⟨b,hb,rfl⟩)
    ·rename_i g a3 Z;refine tu hT hE ?_ b0 b5;intro x J;rcases AU.1 J with J|J
     ·exact a4 x J
     ·obtain⟨cp,c2,rfl⟩:=BE.1 J;exact nd _ (BE.2 ⟨cp,c2,rfl⟩)
    ·rename_i As B φ Z;rw[rj As _ (λx J q O=>(a4 x J).d1 q (fj O))];simp only[hw]
    ·rfl
   |builtin b =>
    simp only[hc]at H;have hT:=H TMP (AZ ..);have H:=λq O=>H q (AY _ O)
    have a9:∀ x∈c.args.toList,x∈(Op.call c).operands:=λx J=>by
     simp only[Op.operands,Call.operands,hc,CT];exact .inr (by simpa using J)
    have J:∀ x∈c.args.toList,one st' x=one st x/\∀ q∈aw [one st x],st' q=st q:=λx J=>by
     have:=de H (a8 (a9 x J));exact⟨dm this.1,λq O=>this.2 q (iT O)⟩
    cases b with
    |len =>
     dsimp only;split
     ·rename_i x a1;have h1:=J x (by rw[a1];simp);simp only[h1.1,b8 h1.2,hw]
     ·rfl
    |append =>
     dsimp only;split
     ·rename_i x y t u a1 _;have h1:=J x (by rw[a1];simp);have h2:=J y (by rw[a1];simp);split
      ·rw[h1.1,h2.1,vP hT h1.2 h2.2 b0]
      ·rfl
     ·rfl
    |min =>
     dsimp only;split
     ·rename_i x y a1;rw[(J x (by rw[a1];simp)).1,(J y (by rw[a1];simp)).1];simp only[hw]
     ·rfl
    |max =>
     dsimp only;split
     ·rename_i x y a1;rw[(J x (by rw[a1];simp)).1,(J y (by rw[a1];simp)).1];simp only[hw]
     ·rfl
    |_=>rfl
   |invoke x n=>rfl
 |_=>simp only[act,I]
end
section
variable {P:Program} {V:Env} {Γ:List Ctr} {T:TypeId->TI} {st st':St} {o:Oper} {R:Type} {all:Array Oper}
def md (Γ:List Ctr)(T:TypeId->TI)(all:Array Oper)(o:Oper)(st:St)(U:Upd):Prop :=
 match o.guard with
 |none=>act Γ T o st some=some U
 |some (j,r)=>∃ t,(all[j]?).bind (·.dst)=some t /\
  ((∃ b,(st t).sh=.one/\(st t).ls=[.bool b]/\((b=r/\act Γ T o st some=some U)\/(b≠r/\U=ek st o)))\/((st t).sh=.und/\U=ek st o))
def jl (Γ:List Ctr)(T:TypeId->TI)(all:Array Oper)(o:Oper)(st:St)(U:Upd)(t:cz):Prop :=
 ((∀ q∈U.map (·.1),q∈t.wr\/q∈t.cw)/\(∀ q∈t.wr,q∈U.map (·.1))/\∀ q,q∈U.map (·.1)->q∉t.wr->bD (ac U st q)=bD (st q))/\match o.guard with
 |none=>act Γ T o st some=some U/\(∀ q∈eV st o,q∈t.rd)/\∀ q∈eC st o.op,q∈t.hd
 |some (j,r)=>∃ s,(all[j]?).bind (·.dst)=some s/\s∈t.rd /\
  ((∃ b,(st s).sh=.one/\(st s).ls=[.bool b]/\((b=r/\act Γ T o st some=some U/\(∀ q∈eV st o,q∈t.rd)/\∀ q∈eC st o.op,q∈t.hd)\/(b≠r/\U=ek st o/\∀ d,o.dst=some d->d∈t.wr))) \/
   ((st s).sh=.und/\U=ek st o/\∀ d,o.dst=some d->d∈t.wr))
theorem tv {α:Type}:∀ {l:List α} {j:Nat} {x:α},l[j]?=some x->l.set j x=l
 |[],_,_,h=>by simp at h
 |y::l,0,x,h=>by simp at h;subst h;rfl
 |y::l,j+1,x,h=>by rw[CM,tv (by simpa using h)]
theorem zS {U:Upd}(h:act Γ T o st some=some U):∀ q∈dJ st o,bD (ac U st q)=bD (st q):=by
  intro q z;unfold dJ at z;split at z
  · rename_i t x y J
    split at z
    · rename_i r j a1 i sz off hx
      simp only[Ba]at z;subst z;simp only[act,wrU,J]at h;split at h
      · cases h
      · cases hb:BC (ar st y).2.length (T t).cells&&decide ((ar st y).1=be (T t).agg)&&!decide ((T t).cells=0) with
        |false=>simp[hb]at h
        |true =>
          simp only[hb,cond_true,hx]at h;split at h
          · rename_i p hh E e xs hd
            cases Y:BC sz e.cells&&decide (off+(ar st y).2.length<=e.cells)&&rJ q with
            |false=>simp[Y]at h
            |true =>
              simp only[Y,cond_true]at h;obtain⟨_,hl⟩:=eL hd (by simp);have u:∀ (O:Bool) (H:Option (Nat×Nat)) (v:e.den) (X:Upd),bD (ac ((q,⟨(st q).ver,(st q).sh,aP (st q).ls j (.own O H E e (xs.set i v))⟩)::X) st q)=bD (st q):=by
                intro O H v X;rw[aN,bg];simp only[bD,aP];rw[List.map_set,tv];rw[CP,hl];simp[jb]
              unfold gq at h;obtain⟨a0,_,h⟩:=BY.1 h;split at h
              · rename_i t _
                cases I:t.rest.isEmpty&&aU t.kill&&dk t.frz t.kill&&!((t.kill++t.frz).any λk=>BC k.1 q) with
                |false=>rw[I]at h;cases h
                |true =>
                  simp only[I,cond_true]at h;cases hh with
                  |none =>
                    simp only[AT]at h;rw[<- h];exact u _ _ _ _
                  |some hp =>
                    obtain⟨hi,Z⟩:=hp;simp only at h;cases h1:CF off Z&&B8 Z (off+(ar st y).2.length) with
                    |false =>
                      rw[h1]at h;simp only[cond_false,AT]at h;rw[<- h];exact u _ _ _ _
                    |true =>
                      rw[h1]at h;simp only[cond_true]at h;cases M:BC i hi with
                      |false=>rw[M]at h;cases h
                      |true =>
                        rw[M]at h;simp only[cond_true,AT]at h;rw[<- h];exact u _ _ _ _
              · cases h
          · cases h
    · simp at z
  · simp at z
theorem oR {t:Nat}{b:Bool}(u:(st t).sh=.one)(r:(st t).ls=[.bool b]):lit st t b=st:=by
 funext q;unfold lit;rcases aj t q ⟨(st t).ver,.one,[.bool b]⟩ st with ⟨rfl,e⟩|⟨_,e⟩
 ·rw[e,<- u,<- r]
 ·exact e
theorem vS {U:Upd}(h:act Γ T o st some=some U):(∀ q∈U.map (·.1),q∈(U.map (·.1)).filter (λq=>!((dJ st o).any (BC q)))\/q∈dJ st o)/\(∀ q∈(U.map (·.1)).filter (λq=>!((dJ st o).any (BC q))),q∈U.map (·.1)) /\
  ∀ q,q∈U.map (·.1)->q∉(U.map (·.1)).filter (λq=>!((dJ st o).any (BC q)))->bD (ac U st q)=bD (st q):=by
 have r:∀ q,(dJ st o).any (BC q)=true->q∈dJ st o:=λq u=>by
  obtain⟨x,z,H⟩:=Bq.1 u;rw[BA H];exact z
 refine⟨λq u=>?_,λq u=>(Bl.1 u).1,λq u I=>?_⟩
 ·cases y:(dJ st o).any (BC q) with
  |true=>exact .inr (r q y)
  |false=>exact .inl (Bl.2 ⟨u,by rw[y];rfl⟩)
 ·refine zS h q (r q ?_);cases y:(dJ st o).any (BC q) with
  |true=>rfl
  |false=>exact absurd (Bl.2 ⟨u,by rw[y];rfl⟩) I
theorem zT {κ:St->cz->Option R}{r:R}(h:opK Γ T all o st κ=some r):∃ U t,jl Γ T all o st U t/\κ (ac U st) t=some r:=by
 have Y:∀ (z:List Nat),act Γ T o st (λU=>κ (ac U st) ⟨z++eV st o,eC st o.op,(U.map (·.1)).filter (λq=>!((dJ st o).any (BC q))),dJ st o⟩)=some r ->
   ∃ U,act Γ T o st some=some U/\κ (ac U st) ⟨z++eV st o,eC st o.op,(U.map (·.1)).filter (λq=>!((dJ st o).any (BC q))),dJ st o⟩=some r:=by
  intro z h;rw[tk]at h;obtain⟨U,M,X⟩:=BY.1 h;exact⟨U,M,X⟩
 have u:((∀ q∈(ek st o).map (·.1),q∈o.dst.toList\/q∈([]:List Nat))/\(∀ q∈o.dst.toList,q∈(ek st o).map (·.1))/\∀ q,q∈(ek st o).map (·.1)->q∉o.dst.toList->bD (ac (ek st o) st q)=bD (st q)):=by
  unfold ek;cases o.dst with
  |none=>simp
  |some d=>simp
 unfold opK at h;unfold jl;cases hg:o.guard with
 |none =>
  simp only[hg]at h;obtain⟨U,M,X⟩:=Y [] h;exact⟨U,_,⟨vS M,M,λq H=>by simpa using H,λq H=>H⟩,X⟩
 |some jw =>
  obtain⟨j,O⟩:=jw;simp only[hg]at h;split at h
  ·rename_i t Z;have J:∀ d,o.dst=some d->d∈o.dst.toList:=λd hd=>by simp[hd]
   split at h
   ·rename_i b y I;have hl:∀ b',b'=b->lit st t b'=st:=λb' e=>oR y (by rw[I,e])
    cases b with
    |true =>
     simp only[cond_true,hl true rfl]at h;cases O with
     |true =>
      simp only[cond_true]at h;obtain⟨U,M,X⟩:=Y [t] h;exact⟨U,_,⟨vS M,t,Z,by simp,.inl ⟨true,y,I,.inl ⟨rfl,M,λq H=>AX _ H,λq H=>H⟩⟩⟩,X⟩
     |false =>
      simp only[cond_false]at h;exact⟨ek st o,_,⟨u,t,Z,by simp,.inl ⟨true,y,I,.inr ⟨by simp,rfl,J⟩⟩⟩,h⟩
    |false =>
     simp only[cond_false,hl false rfl]at h;cases O with
     |true =>
      simp only[cond_true]at h;exact⟨ek st o,_,⟨u,t,Z,by simp,.inl ⟨false,y,I,.inr ⟨by simp,rfl,J⟩⟩⟩,h⟩
     |false =>
      simp only[cond_false]at h;obtain⟨U,M,X⟩:=Y [t] h;exact⟨U,_,⟨vS M,t,Z,by simp,.inl ⟨false,y,I,.inl ⟨rfl,M,λq H=>AX _ H,λq H=>H⟩⟩⟩,X⟩
   ·rename_i y;exact⟨ek st o,_,⟨u,t,Z,by simp,.inr ⟨y,rfl,J⟩⟩,h⟩
   ·cases h
  ·cases h
theorem uI {U:Upd}(e:U=ek st o)(u:∀ d,o.dst=some d->st' d=st d):U=ek st' o:=by
 rw[e];unfold ek;cases r:o.dst with
 |none=>rfl
 |some d=>simp only[u d r]
theorem jl.frame {U:Upd}{t:cz}(h:jl Γ T all o st U t)(u:∀ q,q∈t.rd\/q∈t.wr->st' q=st q)(hh:∀ q∈t.hd,bD (st' q)=bD (st q)):md Γ T all o st' U:=by
 obtain⟨_,h⟩:=h;have r:act Γ T o st some=some U->(∀ q∈eV st o,q∈t.rd)->(∀ q∈eC st o.op,q∈t.hd)->act Γ T o st' some=some U:=by
  intro Y y I;rw[AI (λq Z=>u q (.inl (y q Z))) (λq Z=>hh q (I q Z))];exact Y
 unfold md;cases hg:o.guard with
 |none =>
  rw[hg]at h;exact r h.1 h.2.1 h.2.2
 |some jw =>
  obtain⟨j,a1⟩:=jw;rw[hg]at h;obtain⟨s,Y,y,I⟩:=h;have M:=u s (.inl y);refine⟨s,Y,?_⟩;rw[M];rcases I with ⟨b,h4,H,z⟩|⟨h4,H,z⟩
  ·refine .inl ⟨b,h4,H,?_⟩;rcases z with ⟨X,J,h9,a0⟩|⟨X,J,h9⟩
   ·exact .inl ⟨X,r J h9 a0⟩
   ·exact .inr ⟨X,uI J (λd O=>u d (.inr (h9 d O)))⟩
  ·exact .inr ⟨h4,uI H (λd O=>u d (.inr (z d O)))⟩
theorem vT (hV:ax V)(hT:TOk P T)(hΓ:∀ c∈Γ,bT P c){ops:Array Oper}{i:Nat}(hi:ops[i]?=some o)(J:bH V o)(z:∀ j u,o.guard=some (j,u)->∀ s,(ops[j]?).bind (·.dst)=some s->s<V.nt)
  {U:Upd} (h:md Γ T ops o st U) {a:Act} {w:World} (H:Rel P V st a w) {K:Act->World->Prop} {Q:Exit->Act->World->Prop} (hK:∀ a' w',Rel P V (ac U st) a' w'->K a' w'):wpOp P ops Q i K a w:=by
 obtain⟨W,H⟩:=H;unfold wpOp;simp only[hi];have X:act Γ T o st some=some U->o.wp P a w K Q:=by
  intro h1;obtain⟨U',h2,Y⟩:=AH hV hT hΓ J h1;cases h2;exact Y W a w H K Q hK
 have y:U=ek st o->K (a.put o.dst undef) w:=by
  intro e;refine hK _ _ ?_;subst e;unfold ek;cases hd:o.dst with
  |none=>exact⟨W,H⟩
  |some d=>exact H.putLs hV d (J d hd).1 (J d hd).2 _ .und [] undef [] (Bj _) ⟨rfl,rfl⟩ trivial
 unfold md at h;cases O:o.guard with
 |none =>
  rw[O]at h;have M:Region.wanted o (yielded ops a.tmps)=true:=by simp[Region.wanted,O]
  rw[if_pos M];exact .inl (X h)
 |some jw =>
  obtain⟨j,u⟩:=jw;rw[O]at h;obtain⟨s,h1,h2⟩:=h;have a0:=z j u O s h1;have a2:s<GH:=CN a0 hV.nt;have r:=H.slots s a2;have a1:s<a.tmps.size:=by rw[H.nt];exact a0
  have I:a.tmps[s]?=some (a.tmps.getD s undef):=by
   rw[BG,BF a1];rfl
  rcases h2 with ⟨b,Y,h4,h5⟩|⟨Y,h5⟩
  ·have Z:=H.len s;rw[h4]at Z;rw[Y]at r;have r:W.cs s=[a.tmps.getD s undef]:=r;have hv:=H.leaf s 0 (.bool b) (a.tmps.getD s undef) (by rw[h4];rfl) (by rw[r];rfl);have hv:a.tmps.getD s undef=.bool b:=hv;have hy:yielded ops a.tmps j=some b:=by simp[yielded,h1,I,hv]
   rcases h5 with ⟨rfl,h6⟩|⟨h6,h7⟩
   ·have M:Region.wanted o (yielded ops a.tmps)=true:=by simp[Region.wanted,O,hy]
    rw[if_pos M];exact .inl (X h6)
   ·have M:Region.wanted o (yielded ops a.tmps)=false:=by
     simp only[Region.wanted,O,hy];cases b <;> cases u <;> simp at h6 <;> rfl
    rw[M];exact y h7
  ·rw[Y]at r;obtain⟨hv,_⟩:=r;have hy:yielded ops a.tmps j=none:=by
    unfold yielded;rw[h1,Bf,I,hv];rfl
   have M:Region.wanted o (yielded ops a.tmps)=false:=by simp[Region.wanted,O,hy]
   rw[M];exact y h5
def Run (Γ:List Ctr)(T:TypeId->TI)(all:Array Oper):St->List Oper->List Upd->List cz->St->Prop
 |st,[],[],[],st'=>st'=st
 |st,o::y,U::u,t::r,st'=>jl Γ T all o st U t/\Run Γ T all (ac U st) y u r st'
 |_,_,_,_,_=>False
theorem oS:∀ (H:List Oper) (st:St) (y:List cz) (z:St->List cz->Option R) (r:R),pW Γ T all H st y z=some r ->
  ∃ I u st',Run Γ T all st H I u st'/\z st' (y++u)=some r
 |[],st,y,z,r,h=>⟨[],[],st,rfl,by simpa[pW]using h⟩
 |o::H,st,y,z,r,h=>by
  simp only[pW]at h;obtain⟨U,t,X,O⟩:=zT h;obtain⟨I,u,st',M,J⟩:=oS H (ac U st) (y++[t]) z r O;exact⟨U::I,t::u,st',⟨X,M⟩,by rw[BX]at J;exact J⟩
theorem jl.res {U:Upd}{t:cz}(h:jl Γ T all o st U t):md Γ T all o st U:=h.frame (λ_ _=>rfl) (λ_ _=>rfl)
theorem uJ (Z:ax V)(X:TOk P T)(hΓ:∀ c∈Γ,bT P c){ops:Array Oper}(z:∀ (i:Nat) (o:Oper),ops[i]?=some o->bH V o)
  (r:∀ (i:Nat) (o:Oper),ops[i]?=some o->∀ j y,o.guard=some (j,y)->∀ s,(ops[j]?).bind (·.dst)=some s->s<V.nt) {Q:Exit->Act->World->Prop} :
  ∀ (u:List Oper) (k:Nat) (st:St) (us:List Upd) (I:List cz) (st':St),ops.toList.drop k=u->Run Γ T ops st u us I st'->(∀ a w,Rel P V st' a w->Q .normal a w) ->
   ∀ a w,Rel P V st a w->wpOps P ops Q (List.range' k u.length) a w
 |[],k,st,[],[],st',_,h,H,a,w,O=>by
  have h:st'=st:=h;subst h;exact H a w O
 |o::u,k,st,U::us,t::I,st',Y,h,H,a,w,O=>by
  obtain⟨h1,h2⟩:=h;have M:ops[k]?=some o:=by
   have:(ops.toList.drop k)[0]?=some o:=by rw[Y];rfl
   rw[List.getElem?_drop]at this;simpa using this
  rw[Bg,List.range'_succ,wpOps_cons];refine vT Z X hΓ M (z k o M) (r k o M) h1.res O (λa' w' J=>?_);exact uJ Z X hΓ z r u (k+1) (ac U st) us I st' (by rw[<- CC,Y];rfl) h2 H a' w' J
end
section
variable {P:Program} {V:Env} {Γ:List Ctr} {T:TypeId->TI} {st st':St} {o:Oper} {R:Type} {all:Array Oper}
def cU (D:Nat->Bool):List Upd->St->St
 |[],st=>st
 |U::r,st=>cU (λj=>D (j+1)) r (bif D 0 then ac U st else st)
theorem iU {q:Nat}:∀ {U:Upd} (s u:St),q∈U.map (·.1)->ac U s q=ac U u q
 |[],_,_,h=>by simp at h
 |(r,c)::U,s,u,h=>by
  simp only[ac];cases y:BC q r with
  |true=>rfl
  |false =>
   simp only[cond_false];refine iU s u ?_;simp only[BR,BH]at h;rcases h with rfl|h
   ·simp at y
   ·exact h
theorem ei {q:Nat}:∀ {U:Upd} (s:St),q∉U.map (·.1)->ac U s q=s q
 |[],_,_=>rfl
 |(r,c)::U,s,h=>by
  simp only[BR,BH,not_or]at h;have u:BC q r=false:=by
   cases u:BC q r with
   |false=>rfl
   |true=>exact absurd (BA u) h.1
  simp only[ac,u,cond_false];exact ei s h.2
theorem xt {U r:Upd}(h:∀ q,q∈U.map (·.1)->q∉r.map (·.1))(s:St):ac r (ac U s)=ac U (ac r s):=by
 funext q;by_cases u:q∈U.map (·.1)
 ·rw[ei _ (h q u)];exact iU _ _ u
 ·rw[ei (U:=U) _ u];by_cases y:q∈r.map (·.1)
  ·exact iU _ _ y
  ·rw[ei _ y,ei _ y,ei _ u]
theorem mf:∀ {us:List Upd} {D D':Nat->Bool} {s:St},(∀ j,j<us.length->D j=D' j)->cU D us s=cU D' us s
 |[],_,_,_,_=>rfl
 |U::us,D,D',s,h=>by
  simp only[cU];rw[h 0 (by simp)];exact mf (λj r=>h (j+1) (by simpa using r))
theorem nf:∀ {us:List Upd} {D:Nat->Bool} {s:St},(∀ j,D j=false)->cU D us s=s
 |[],_,_,_=>rfl
 |U::us,D,s,h=>by
  simp only[cU,h 0,cond_false];exact nf (λj=>h (j+1))
theorem mg {q:Nat}:∀ {us:List Upd} {D D':Nat->Bool} {s r:St},s q=r q->(∀ (j:Nat) (U:Upd),us[j]?=some U->q∈U.map (·.1)->D j=D' j)->cU D us s q=cU D' us r q
 |[],_,_,_,_,h,_=>h
 |U::us,D,D',s,r,h,H=>by
  simp only[cU];refine mg ?_ (λj I M z=>H (j+1) I (by simpa using M) z);by_cases u:q∈U.map (·.1)
  ·rw[H 0 U rfl u];cases D' 0 with
   |true=>exact iU _ _ u
   |false=>exact h
  ·have J:∀ b:Bool,(bif b then ac U s else s) q=s q:=by intro b;cases b <;> simp[ei _ u]
   have y:∀ b:Bool,(bif b then ac U r else r) q=r q:=by intro b;cases b <;> simp[ei _ u]
   rw[J,y,h]
theorem ng {U:Upd}:∀ {us:List Upd} {D:Nat->Bool} {s:St},(∀ (j:Nat) (u:Upd),us[j]?=some u->D j=true->∀ q,q∈U.map (·.1)->q∉u.map (·.1))->cU D us (ac U s)=ac U (cU D us s)
 |[],_,_,_=>rfl
 |u::us,D,s,h=>by
  simp only[cU];cases H:D 0 with
  |true =>
   simp only[cond_true];rw[xt (h 0 u rfl H)];exact ng (λj r z y=>h (j+1) r (by simpa using z) y)
  |false =>
   simp only[cond_false];exact ng (λj r z y=>h (j+1) r (by simpa using z) y)
theorem oa {U:Upd}:∀ {us:List Upd} {i:Nat} {D D':Nat->Bool} {s:St},us[i]?=some U->D i=false->(∀ j,D' j=(D j||BC j i)) ->
  (∀ (j:Nat) (u:Upd),us[j]?=some u->i<j->D j=true->∀ q,q∈U.map (·.1)->q∉u.map (·.1))->cU D' us s=ac U (cU D us s)
 |[],i,_,_,_,h,_,_,_=>by simp at h
 |V::us,0,D,D',s,h,z,r,H=>by
  simp at h;subst h;simp only[cU];have y:D' 0=true:=by rw[r 0];simp
  rw[y,z];simp only[cond_true,cond_false];have e:cU (λj=>D' (j+1)) us (ac V s)=cU (λj=>D (j+1)) us (ac V s):=mf (λj _=>by rw[r (j+1)];simp[BC]);rw[e];exact ng (λj u I J=>H (j+1) u (by simpa using I) (by omega) J)
 |V::us,i+1,D,D',s,h,z,r,H=>by
  simp only[cU];have y:D' 0=D 0:=by rw[r 0];simp[BC]
  rw[y];exact oa (i:=i) (by simpa using h) z (λj=>by rw[r (j+1)];simp[BC]) (λj u I J M=>H (j+1) u (by simpa using I) (by omega) M)
theorem qu:∀ {r:List Oper} {us:List Upd} {u:List cz} {s z:St},Run Γ T all s r us u z->∀ (i:Nat) (o:Oper),r[i]?=some o ->
  ∃ U t,us[i]?=some U/\u[i]?=some t/\jl Γ T all o (cU (λj=>decide (j<i)) us s) U t
 |[],_,_,_,_,_,i,o,h=>by simp at h
 |H::r,[],_,_,_,h,_,_,_=>h.elim
 |H::r,_::_,[],_,_,h,_,_,_=>h.elim
 |H::r,U::us,t::u,s,z,h,0,o,y=>by
  simp at y;subst y;exact⟨U,t,rfl,rfl,by rw[nf (λj=>by simp)];exact h.1⟩
 |H::r,U::us,t::u,s,z,h,i+1,o,y=>by
  obtain⟨O,I,X,J,M⟩:=qu h.2 i o (by simpa using y);refine⟨O,I,by simpa using X,by simpa using J,?_⟩;simp only[cU];have e:(λj=>decide (j+1<i+1))=λj=>decide (j<i):=by funext j;simp
  rw[e];simpa using M
theorem uK:∀ {r:List Oper} {us:List Upd} {y:List cz} {s u:St},Run Γ T all s r us y u->us.length=r.length/\y.length=r.length/\u=cU (λ_=>true) us s
 |[],[],[],_,_,h=>⟨rfl,rfl,h⟩
 |[],_::_,_,_,_,h=>h.elim
 |[],[],_::_,_,_,h=>h.elim
 |_::_,[],_,_,_,h=>h.elim
 |_::_,_::_,[],_,_,h=>h.elim
 |o::r,U::us,t::y,s,u,h=>by
  obtain⟨I,H,z⟩:=uK h.2;exact⟨by simp[I],by simp[H],by simpa[cU]using z⟩
theorem qv {q:Nat}:∀ {os:List Oper} {us:List Upd} {M:List cz} {O s':St} {D:Nat->Bool} {F:Nat->Bool} {s sF:St} {B:Prop},Run Γ T all O os us M s'->(∀ (j:Nat) (t:cz),M[j]?=some t->F j=decide (q∈t.wr)) ->
  bD (s q)=bD (sF q)->(B->bD (sF q)=bD (O q)) ->
  (∀ (j:Nat) (t:cz) (U:Upd),M[j]?=some t->us[j]?=some U->D j=true->q∉t.wr->q∈U.map (·.1)->B/\∀ (k:Nat) (t':cz),k<j->M[k]?=some t'->q∈t'.wr->D k=true) ->
  bD (cU D us s q)=bD (cU (λj=>D j&&F j) us sF q)
 |[],[],[],_,_,_,_,_,_,_,_,_,I,_,_=>I
 |[],_::_,_,_,_,_,_,_,_,_,h,_,_,_,_=>h.elim
 |[],[],_::_,_,_,_,_,_,_,_,h,_,_,_,_=>h.elim
 |_::_,[],_,_,_,_,_,_,_,_,h,_,_,_,_=>h.elim
 |_::_,_::_,[],_,_,_,_,_,_,_,h,_,_,_,_=>h.elim
 |o::os,U::us,t::M,O,s',D,F,s,sF,B,h,hF,I,Y,z=>by
  obtain⟨⟨⟨k1,k2,k3⟩,_⟩,J⟩:=h;have y:=hF 0 t rfl;simp only[cU];refine qv (F:=λj=>F (j+1)) (B:=B/\(q∈t.wr->D 0=true)) J (λj t' ht=>hF (j+1) t' (by simpa using ht)) ?_ ?_ ?_
  ·by_cases r:q∈U.map (·.1)
   ·by_cases u:q∈t.wr
    ·rw[y,decide_eq_true u,B5];cases D 0 with
     |true=>simp only[cond_true];rw[iU s sF r]
     |false=>exact I
    ·rw[y,decide_eq_false u,Bv];simp only[cond_false];cases H:D 0 with
     |true =>
      simp only[cond_true];rw[iU s O r,k3 q r u];exact (Y (z 0 t U rfl rfl H u r).1).symm
     |false=>exact I
   ·have e:∀ (b:Bool) (x:St),(bif b then ac U x else x) q=x q:=by intro b x;cases b <;> simp[ei _ r]
    rw[e,e];exact I
  ·rintro⟨hB,H⟩;by_cases r:q∈U.map (·.1)
   ·by_cases u:q∈t.wr
    ·rw[y,decide_eq_true u,B5,H u];simp only[cond_true];rw[iU sF O r]
    ·rw[y,decide_eq_false u,Bv];simp only[cond_false];rw[k3 q r u];exact Y hB
   ·have e:∀ (b:Bool) (x:St),(bif b then ac U x else x) q=x q:=by intro b x;cases b <;> simp[ei _ r]
    rw[e,ei _ r];exact Y hB
  ·intro j t' U' ht hU H u r;obtain⟨g1,g2⟩:=z (j+1) t' U' (by simpa using ht) (by simpa using hU) H u r;exact⟨⟨g1,λZ=>g2 0 t (by omega) rfl Z⟩,λk t2 hk a0 X=>g2 (k+1) t2 (by omega) (by simpa using a0) X⟩
theorem rl {f:Nat->Nat}{i:Nat}:∀ (l:List Edge) (s:Nat),(l.foldl (λs e=>bif Region.binds .any e then s ||| 2 ^ e.on ||| f e.on else s) s).testBit i=true ->
  s.testBit i=true\/∃ e∈l,Region.binds .any e=true/\(i=e.on\/(f e.on).testBit i=true)
 |[],s,h=>.inl h
 |e::l,s,h=>by
  simp only[CY]at h;rcases rl l _ h with h|⟨u,z,y⟩
  ·cases r:Region.binds .any e with
   |false=>rw[r]at h;exact .inl h
   |true =>
    rw[r]at h;simp only[cond_true,Nat.testBit_or,Br]at h;rcases h with (h|h)|h
    ·exact .inl h
    ·refine .inr ⟨e,AZ ..,r,.inl ?_⟩;rw[Nat.testBit_two_pow]at h;exact (of_decide_eq_true h).symm
    ·exact .inr ⟨e,AZ ..,r,.inr h⟩
  ·exact .inr ⟨u,AY _ z,y⟩
theorem tw:∀ (z:List Oper) (r:List Nat),(∀ j,j<r.length->(jm z r).getD j 0=r.getD j 0) /\
  ∀ (k:Nat) (o:Oper),z[k]?=some o->∃ u:List Nat,u.length=r.length+k/\(∀ j,j<u.length->u.getD j 0=(jm z r).getD j 0) /\
   (jm z r).getD (r.length+k) 0=o.after.toList.foldl (λs e=>bif Region.binds .any e then s ||| 2 ^ e.on ||| u.getD e.on 0 else s) 0
 |[],r=>⟨λ_ _=>rfl,λk o h=>by simp at h⟩
 |o::z,r=>by
  obtain⟨I,M⟩:=tw z (r++[o.after.toList.foldl (λs e=>bif Region.binds .any e then s ||| 2 ^ e.on ||| r.getD e.on 0 else s) 0]);have y:∀ j,j<r.length->(jm (o::z) r).getD j 0=r.getD j 0:=by
   intro j H;simp only[jm];rw[I j (by simp;omega)];simp[BI,BU H]
  refine⟨y,λk X h=>?_⟩;cases k with
  |zero =>
   simp at h;subst h;refine⟨r,rfl,λj H=>(y j H).symm,?_⟩;simp only[jm];rw[Nat.add_zero,I r.length (by simp)];simp[BI]
  |succ k =>
   obtain⟨u,J,O,Y⟩:=M k X (by simpa using h);refine⟨u,by simp at J;omega,λj H=>O j H,?_⟩;simp only[jm];have e:r.length+(k+1)=(r++[o.after.toList.foldl (λs e=>bif Region.binds .any e then s ||| 2 ^ e.on ||| r.getD e.on 0 else s) 0]).length+k:=by simp;omega
   rw[e];exact Y
theorem jc {ops:Array Oper}{D:Nat->Prop}(z:∀ (j:Nat) (o:Oper),ops[j]?=some o->D j->∀ e∈o.after.toList,Region.binds .any e=true->D e.on) :
  ∀ (n j:Nat),j<n->∀ (o:Oper),ops[j]?=some o->(∀ e∈o.after.toList,Region.binds .any e=true->D e.on)->∀ i,((jm ops.toList []).getD j 0).testBit i=true->D i
 |0,_,h,_,_,_,_,_=>by omega
 |n+1,j,hj,o,M,O,i,Y=>by
  obtain⟨r,h1,Z,J⟩:=(tw ops.toList []).2 j o (by simpa using M);simp only[List.length_nil,Bk]at h1 J;rw[J]at Y;rcases rl (f:=λk=>r.getD k 0) _ _ Y with h|⟨e,X,I,y⟩
  ·simp at h
  ·rcases y with rfl|y
   ·exact O e X I
   ·have H:e.on<r.length:=by
     apply BV;intro hn;have:r.getD e.on 0=0:=by
      rw[BI,CA (by omega)];rfl
     rw[this]at y;simp at y
    rw[Z _ H]at y;have hD:=O e X I;have u:e.on<ops.size:=by
     have:=(Bw.1 M).1;omega
    exact jc z n e.on (by omega) ops[e.on] (BF u) (z e.on _ (BF u) hD) i y
theorem fI {a b:List Nat}(h:lE a b=false){q:Nat}(r:q∈a):q∉b:=by
 intro u;unfold lE at h;rw[B3]at h;have:=h q r;simp only[Bq,not_exists,not_and]at this;exact this q u (by simp)
theorem kX {r:List Nat}{z:List cz}(h:oY r z=true){i j:Nat}(u:i<j){x y:cz}(M:z[i]?=some x)(I:z[j]?=some y):(r.getD j 0).testBit i=true\/x.apart y=true:=by
 unfold oY at h;rw[BQ]at h;have O:=(BD.1 I).1;have J:=h j (by simpa using O);rw[BQ]at J;have H:=J i (by simpa using u);simp only[M,I,Br]at H;exact H
theorem pS {p p':Nat->Bool}{i:Nat}(I:p i=true)(r:p' i=false)(h:∀ j,j≠i->p' j=p j):∀ (l:List Nat),l.Nodup->i∈l->l.countP p'+1=l.countP p
 |[],_,H=>by simp at H
 |x::l,z,H=>by
  rw[Bb]at z;by_cases u:x=i
  ·subst u;have e:l.countP p'=l.countP p:=by
    apply List.countP_congr;intro y J;rw[h y (λe=>z.1 (e ▸ J))]
   simp[I,r,e]
  ·have M:=pS I r h l z.2 ((BH.1 H).resolve_left (λe=>u e.symm));simp only[CU,h x u];omega
theorem AJ (hV:ax V)(hT:TOk P T)(hΓ:∀ c∈Γ,bT P c){ops:Array Oper}(dd:∀ (i:Nat) (o:Oper),ops[i]?=some o->bH V o)
  (ba:∀ (i:Nat) (o:Oper),ops[i]?=some o->∀ j cy,o.guard=some (j,cy)->∀ s,(ops[j]?).bind (·.dst)=some s->s<V.nt) {Q:Exit->Act->World->Prop}
  {us:List Upd} {ts:List cz} {s0 s1:St} (a3:Run Γ T ops s0 ops.toList us ts s1) (a4:nk ops=true) (c3:oY (jm ops.toList []) ts=true) (hQ:∀ a w,Rel P V s1 a w->Q .normal a w) :
  ∀ (a1:Nat) (r:Array Bool) (a:Act) (w:World),r.size=ops.size->(Ca ops.size).countP (λi=>!r.getD i true)=a1 ->
   (∀ (j:Nat) (o:Oper),ops[j]?=some o->r.getD j false=true->∀ e∈o.after.toList,Region.binds .any e=true->r.getD e.on false=true) ->
   Rel P V (cU (λj=>r.getD j false) us s0) a w->wpAny P .any ops Q a1 r a w:=by
 obtain⟨e7,e6,c5⟩:=uK a3;have eb:ops.toList.length=ops.size:=CH;have bb:∀ (r:Array Bool),r.size=ops.size->Region.ready .any ops r=[]->∀ i,i<ops.size->r.getD i false=true:=by
  intro r a2 hr i;induction i using CZ with
  |ind i ih =>
   intro hi;cases hl:r.getD i false with
   |true=>rfl
   |false =>
    exfalso;have d6:r.getD i true=false:=by
     rw[BG,BF (by omega)]at hl ⊢;exact hl
    have ho:ops[i]?=some ops[i]:=BF hi;have bx:i∈Region.ready .any ops r:=by
     unfold Region.ready;rw[Bl];refine⟨by simpa using hi,?_⟩;rw[d6,ho];simp only[Cb,CL,BT,CV];rw[Bn];intro e he;cases dc:Region.binds .any e with
     |false=>rfl
     |true =>
      simp only[Bool.not_true,Bool.false_or];have b9:e.on<i:=by
       unfold nk at a4;rw[BQ]at a4;have:=a4 i (by simpa using hi);simp only[ho]at this;rw[BQ]at this;have:=this e (by simpa using he);simpa[dc]using this
      exact ih e.on b9 (by omega)
    rw[hr]at bx;simp at bx
 have c0:∀ (r:Array Bool) (a:Act) (w:World),r.size=ops.size->Rel P V (cU (λj=>r.getD j false) us s0) a w->Region.ready .any ops r=[]->Q .normal a w:=by
  intro r a w a2 hr bl;refine hQ a w ?_;rw[c5];have:cU (λ_=>true) us s0=cU (λj=>r.getD j false) us s0:=mf (λj J=>(bb r a2 bl j (by omega)).symm);rw[this];exact hr
 intro a1;induction a1 with
 |zero =>
  intro r a w a2 O ad hr;have bl:Region.ready .any ops r=[]:=by
   unfold Region.ready;rw[List.filter_eq_nil_iff];intro i hi hc;rw[CI]at O;have:=O i hi;simp only[AV]at hc;exact this hc.1
  exact⟨bl,c0 r a w a2 hr bl⟩
 |succ a1 ih =>
  intro r a w a2 O ad hr;refine⟨c0 r a w a2 hr,λi hi=>?_⟩;unfold Region.ready at hi;rw[Bl]at hi;obtain⟨b3,c1⟩:=hi;have b3:i<ops.size:=by simpa using b3
  have ho:ops[i]?=some ops[i]:=BF b3;rw[ho]at c1;simp only[AV,Be,BT,CV]at c1;obtain⟨b5,a9⟩:=c1;rw[Bn]at a9;have X:r.getD i false=false:=by
   rw[BG,BF (by omega)]at b5 ⊢;exact b5
  have cx:∀ e∈(ops[i]).after.toList,Region.binds .any e=true->r.getD e.on false=true:=by
   intro e he hb;have:=a9 e (by simpa using he);simpa[hb]using this
  obtain⟨U,t,hU,ht,b4⟩:=qu a3 i ops[i] (by simp);have b0:∀ (j:Nat) (o:Oper),ops[j]?=some o->(λk=>r.getD k false=true) j->∀ e∈o.after.toList,Region.binds .any e=true->(λk=>r.getD k false=true) e.on:=ad;obtain⟨e0,_,_⟩:=b4.1;have Y:∀ (j:Nat) (M:Upd),us[j]?=some M->∃ H,ts[j]?=some H/\(∀ q∈M.map (·.1),q∈H.wr\/q∈H.cw)/\∀ q∈H.wr,q∈M.map (·.1):=by
   intro j M J;have a5:j<ops.size:=by
    have:=(BD.1 J).1;omega
   obtain⟨U2,t2,h1,Z,h3⟩:=qu a3 j ops[j] (by simp[a5]);rw[J]at h1;cases h1;exact⟨t2,Z,h3.1.1,h3.1.2.1⟩
  have cp:∀ (j:Nat) (M:Upd),us[j]?=some M->j≠i->r.getD j false≠decide (j<i)->∃ H,ts[j]?=some H/\(∀ q∈M.map (·.1),q∈H.wr\/q∈H.cw)/\(H.apart t=true\/t.apart H=true):=by
   intro j M J b2 u;obtain⟨H,h1,Z,_⟩:=Y j M J;refine⟨H,h1,Z,?_⟩;rcases Nat.lt_or_gt_of_ne b2 with b9|e4
   ·have hl:r.getD j false=false:=by
     cases hl:r.getD j false with
     |false=>rfl
     |true=>rw[hl]at u;simp[b9]at u
    rcases kX c3 b9 h1 ht with h3|h3
    ·have:=jc b0 (i+1) i (Bj _) ops[i] ho cx j h3;rw[hl]at this;cases this
    ·exact .inl h3
   ·have hl:r.getD j false=true:=by
     cases hl:r.getD j false with
     |true=>rfl
     |false=>rw[hl]at u;simp at u;omega
    have a5:j<ops.size:=by
     have:=(BD.1 J).1;omega
    have b1:ops[j]?=some ops[j]:=BF a5;rcases kX c3 e4 ht h1 with h3|h3
    ·have:=jc b0 (j+1) j (Bj _) ops[j] b1 (ad j _ b1 hl) i h3;rw[X]at this;cases this
    ·exact .inr h3
  have a0:∀ (x y:cz),x.apart y=true->(∀ q,q∈x.wr\/q∈x.cw->(q∉y.wr/\q∉y.cw)/\q∉y.rd)/\(∀ q,q∈y.wr\/q∈y.cw->(q∉x.wr/\q∉x.cw)/\q∉x.rd)/\(∀ q∈x.wr,q∉y.hd)/\∀ q∈y.wr,q∉x.hd:=by
   intro x y h;unfold cz.apart at h;simp only[AV,Be]at h;obtain⟨⟨⟨⟨h1,Z⟩,h3⟩,h4⟩,h5⟩:=h;refine⟨λq I=>?_,λq I=>?_,λq I=>fI h4 I,λq I hx=>fI h5 hx I⟩
   ·have I:=AU.2 I;have:=fI h1 I;simp only[AU,not_or]at this;exact⟨this,fI Z I⟩
   ·have I:=AU.2 I;have:q∉x.wr++x.cw:=λhx=>fI h1 hx I
    simp only[AU,not_or]at this;exact⟨this,λhx=>fI h3 hx I⟩
  have bn:∀ (j:Nat) (M:Upd),us[j]?=some M->j≠i->r.getD j false≠decide (j<i)->∀ q∈M.map (·.1),(q∉t.wr/\q∉t.cw)/\q∉t.rd:=by
   intro j M J b2 u q I;obtain⟨H,_,h1,Z⟩:=cp j M J b2 u;rcases Z with Z|Z
   ·exact (a0 _ _ Z).1 q (h1 q I)
   ·exact (a0 _ _ Z).2.1 q (h1 q I)
  have c2:∀ (j:Nat) (H:cz),ts[j]?=some H->j≠i->r.getD j false≠decide (j<i)->∀ q∈H.wr,q∉t.hd:=by
   intro j H J b2 u q I;have a5:j<us.length:=by
    have:=(BD.1 J).1;omega
   obtain⟨t2,h0,_,Z⟩:=cp j us[j] (BK a5) b2 u;rw[J]at h0;cases h0;rcases Z with Z|Z
   ·exact (a0 _ _ Z).2.2.1 q I
   ·exact (a0 _ _ Z).2.2.2 q I
  have c6:md Γ T ops ops[i] (cU (λj=>r.getD j false) us s0) U:=by
   refine b4.frame (λq I=>?_) (λq I=>?_)
   ·refine mg rfl λj M J d3=>?_
    by_cases z:j=i
    ·subst z;rw[X];simp
    ·apply BV;intro u;have:=bn j M J z u q d3;rcases I with I|I
     ·exact this.2 I
     ·exact this.1.1 I
   ·have cu:∀ (j:Nat) (H:cz),ts[j]?=some H->(λj=>match ts[j]? with|some H=>decide (q∈H.wr)|none=>false) j=decide (q∈H.wr):=λj H h=>by simp only[h]
    have e1:=qv (q:=q) (D:=λj=>r.getD j false) (F:=λj=>match ts[j]? with|some H=>decide (q∈H.wr)|none=>false) (s:=s0) (sF:=s0) (B:=True) a3 cu rfl (λ_=>rfl) (λj H M J hU hD hw d4=>by
     refine⟨trivial,λk t2 hk cb cc=>?_⟩;obtain⟨t3,h3,h4,_⟩:=Y j M hU;rw[J]at h3;cases h3;have e5:=(h4 q d4).resolve_left hw;have a5:j<ops.size:=by
      have:=(BD.1 hU).1;omega
     have b1:ops[j]?=some ops[j]:=BF a5;rcases kX c3 hk cb J with h5|h5
     ·exact jc b0 (j+1) j (Bj _) ops[j] b1 (ad j _ b1 hD) k h5
     ·exact absurd e5 ((a0 _ _ h5).1 q (.inl cc)).1.2)
    have e2:=qv (q:=q) (D:=λj=>decide (j<i)) (F:=λj=>match ts[j]? with|some H=>decide (q∈H.wr)|none=>false) (s:=s0) (sF:=s0) (B:=True) a3 cu rfl (λ_=>rfl) (λj H M J hU hD hw d4=>by
     refine⟨trivial,λk t2 hk cb cc=>?_⟩;have:=of_decide_eq_true hD;exact decide_eq_true (by omega))
    rw[e1,e2];congr 1;refine mg rfl λj M J d3=>?_
    obtain⟨H,h1,Z,_⟩:=Y j M J;simp only[h1];by_cases hw:q∈H.wr
    ·rw[decide_eq_true hw,B5,B5];by_cases z:j=i
     ·subst z;rw[X];simp
     ·apply BV;intro u;exact c2 j H h1 z u q hw I
    ·rw[decide_eq_false hw,Bv,Bv]
  refine vT hV hT hΓ ho (dd i _ ho) (ba i _ ho) c6 hr λa' w' e3=>?_
  have a6:∀ (b:Bool) (j:Nat),(r.setIfInBounds i true).getD j b=if j=i then true else r.getD j b:=by
   intro b j;simp only[BG,Array.getElem?_setIfInBounds];by_cases z:j=i
   ·subst z;simp[a2,b3]
   ·rw[if_neg (λe=>z e.symm),if_neg z]
  refine ih _ a' w' (by simpa using a2) ?_ ?_ ?_
  ·have:=pS (p:=λj=>!r.getD j true) (p':=λj=>!(r.setIfInBounds i true).getD j true) (i:=i) (by simp[b5]) (by simp[a6]) (λj J=>by simp[a6,J]) (Ca ops.size) List.nodup_range (by simpa using b3);omega
  ·intro j o' J c4 e he hb;rw[a6]at c4 ⊢;by_cases d1:e.on=i
   ·rw[if_pos d1]
   ·rw[if_neg d1];by_cases z:j=i
    ·subst z;rw[ho]at J;cases J;exact cx e he hb
    ·rw[if_neg z]at c4;exact ad j o' J c4 e he hb
  ·have d2:=oa (U:=U) (us:=us) (i:=i) (D:=λj=>r.getD j false) (D':=λj=>(r.setIfInBounds i true).getD j false) (s:=s0) hU X (λj=>by
     simp only[a6];by_cases z:j=i
     ·subst z;simp
     ·have:BC j i=false:=by
       cases hb:BC j i with
       |false=>rfl
       |true=>exact absurd (BA hb) z
      simp[z,this])
    (λj M J ec hD q I d5=>by
     have:=bn j M J (by omega) (by rw[hD];simp;omega) q d5;exact (e0 q I).elim this.1.1 this.1.2)
   rw[d2];exact e3
theorem AK (hV:ax V)(hT:TOk P T)(hΓ:∀ c∈Γ,bT P c)(M:P.follows .mixedOrders=true){id:Nat}{ops:Array Oper}{y:Bool}(O:∀ (i:Nat) (o:Oper),ops[i]?=some o->bH V o)
  (u:∀ (i:Nat) (o:Oper),ops[i]?=some o->∀ j J,o.guard=some (j,J)->∀ s,(ops[j]?).bind (·.dst)=some s->s<V.nt) {Q:Exit->Act->World->Prop} {κ:St->Option R} {r:R}
  (h:regK Γ T ops y st κ=some r) (hκ:∀ H,κ H=some r->∀ a w,Rel P V H a w->Q .normal a w) {a:Act} {w:World} (Y:Rel P V st a w):(Code.region id ops y).wp P Q a w:=by
 unfold regK at h;cases y with
 |true =>
  simp only[cond_true]at h;obtain⟨us,Z,H,z,I⟩:=oS _ _ _ _ _ h;simp only[BZ]at I;cases X:nk ops&&oY (jm ops.toList []) Z with
  |false=>simp[X]at I
  |true =>
   simp only[X,cond_true]at I;simp only[AV]at X;refine wp_region_any M ?_;have hD:∀ j,(Bc ops.size false).getD j false=false:=by
    intro j;simp only[BG,B6];split <;> rfl
   refine AJ hV hT hΓ O u z X.1 X.2 (hκ H I) ops.size (Bc ops.size false) a _ (by simp) ?_ ?_ ?_
   ·rw[List.countP_eq_length.2]
    ·simp
    ·intro i hi;have hi:i<ops.size:=by simpa using hi
     simp[BG,B6,hi]
   ·intro j o' _ hl;rw[hD]at hl;cases hl
   ·rw[nf (λj=>hD j)];obtain⟨W,Y⟩:=Y;exact⟨W,Y.world hV (w':={ w with drawn:=w.drawn+1 }) (CD _) rfl rfl rfl (λ_ _=>rfl)⟩
 |false =>
  simp only[cond_false]at h;obtain⟨us,Z,H,z,I⟩:=oS _ _ _ _ _ h;refine wp_region ?_;have:=uJ hV hT hΓ O u ops.toList 0 st us Z H (by simp) z (hκ H I) a w Y;rw[CH,<- List.range_eq_range']at this;exact this
end
section
variable {P:Program} {V:Env} {Γ:List Ctr} {T:TypeId->TI} {st st':St} {o:Oper} {R:Type} {all:Array Oper}
theorem kA (live:List Nat):∀ (cs:List Coe) (ls:List Leaf),(cJ st live cs ls).length=ls.length
 |[],[]=>rfl
 |_::_,[]=>rfl
 |[],_::ls=>by simp[cJ,kA live [] ls]
 |_::cs,_::ls=>by simp[cJ,kA live cs ls]
theorem oT (live:List Nat):∀ (cs:List Coe) (ls:List Leaf) (j:Nat) (l:Leaf),(cJ st live cs ls)[j]?=some l->∃ r,ls[j]?=some r/\(l=.dead\/∃ c,l=bo st live c r)
 |[],[],j,l,h=>by simp[cJ]at h
 |_::_,[],j,l,h=>by simp[cJ]at h
 |[],r::ls,0,l,h=>by simp[cJ]at h;exact⟨r,rfl,.inl h.symm⟩
 |c::cs,r::ls,0,l,h=>by simp[cJ]at h;exact⟨r,rfl,.inr ⟨c,h.symm⟩⟩
 |[],r::ls,j+1,l,h=>by
  simp only[cJ,B7]at h;obtain⟨y,z,u⟩:=oT live [] ls j l h;exact⟨y,by simpa using z,u⟩
 |c::cs,r::ls,j+1,l,h=>by
  simp only[cJ,B7]at h;obtain⟨y,z,u⟩:=oT live cs ls j l h;exact⟨y,by simpa using z,u⟩
theorem zU (live:List (Nat×List Coe))(q:Nat):lF live st q=bL.none/\q∉live.map (·.1)\/∃ y,lF live st q=⟨0,(st q).sh,cJ st (live.map (·.1)) y (st q).ls⟩/\q∈live.map (·.1):=by
 have I:∀ (u:List Nat) (l:List (Nat×List Coe)),(av (l.map λr=>(r.1,⟨0,(st r.1).sh,cJ st u r.2 (st r.1).ls⟩)) q=bL.none/\q∉l.map (·.1)) \/
   ∃ y,av (l.map λr=>(r.1,⟨0,(st r.1).sh,cJ st u r.2 (st r.1).ls⟩)) q=⟨0,(st q).sh,cJ st u y (st q).ls⟩/\q∈l.map (·.1):=by
  intro u l;induction l with
  |nil=>exact .inl ⟨rfl,by simp⟩
  |cons x l O =>
   obtain⟨r,y⟩:=x;by_cases h:q=r
   ·subst h;exact .inr ⟨y,by simp[av,ac],by simp⟩
   ·have z:BC q r=false:=by
     cases z:BC q r with
     |false=>rfl
     |true=>exact absurd (BA z) h
    rcases O with ⟨M,J⟩|⟨H,M,J⟩
    ·refine .inl ⟨?_,by simpa[h]using J⟩;rw[<- M];simp[av,ac,z]
    ·refine .inr ⟨H,?_,by simp only[BR,BH];exact .inr J⟩;rw[<- M];simp[av,ac,z]
 exact I (live.map (·.1)) live
theorem xu {keys:List Nat}{c:Coe}{r:Leaf}(h:am (bo st keys c r)):am r\/r=.nil:=by
 cases r with
 |own p u E e y=>exact .inl trivial
 |nil=>exact .inr rfl
 |_ =>
  exfalso;revert h;cases c <;> simp only[bo] <;> first
   |exact id
   |(cases (!_||_:Bool) <;> first | exact id | (split <;> exact id))
   |(cases (_&&_:Bool) <;> exact id)
   |(cases (List.any _ _:Bool) <;> exact id)
   |(cases (List.all _ _:Bool) <;> exact id)
theorem iq.nw {W W':Wit}{w:World}{c:Bool×Bool×(a:Ty)×a.den}{u:Value}(r:∀ k,W.nw k->W'.nw k)(h:iq V W w c u):iq V W' w c u:=by
 have z:∀ (p:Bool) k,gd V W p k->gd V W' p k:=λp k hk=>hk.imp (r k) id
 unfold iq at h ⊢;split at h
 ·rename_i M;rw[if_pos M];obtain⟨b,ob,g,I,Y,X,O,y,J,Z,H⟩:=h;exact⟨b,ob,g,I,Y,X,O.imp (r b) id,y,J.imp (r g) id,Rd.mono (z _) Z,H⟩
 ·rename_i M;rw[if_neg M];obtain⟨g,I,Y,X,J,Z,H⟩:=h;exact⟨g,I,Y,X,J.imp (r g) id,Rd.mono (z _) Z,H⟩
theorem vU {W W':Wit}{w:World}{keys:List Nat}{bs bs':List Nat}{c:Coe}{M:Leaf}{v:Value}(h:aI P V W st w bs M v)
  (I:∀ k,W.nw k->W'.nw k) (hβ:W'.β=W.β) (a5:∀ q,keys.any (BC q)=true->W'.cs q=W.cs q) (H:∀ b,keys.any (BC b)=true->(st b).sh=.agg->(st' b).sh=.agg)
  (a2:am M->bs'=bs) (a1:M=.nil->bs'=[]) (a3:am M->¬ am (bo st keys c M)->(∃ p E e,c=.ro p E e)->∀ k∈bs,W'.nw k) :
  aI P V W' st' w bs' (bo st keys c M) v:=by
 have z:∀ (p q:Bool),(!q||p)=true->∀ k,gd V W q k->gd V W' p k:=by
  intro p q a9 k J;rcases J with J|⟨Z,J⟩
  ·exact .inl (I k J)
  ·refine .inr ⟨?_,J⟩;subst Z;simpa using a9
 cases c with
 |kill=>simp only[bo];trivial
 |keep =>
  cases M with
  |int k n=>exact h
  |bool b=>exact h
  |str s=>exact h
  |nil=>exact h
  |hdr n=>exact h
  |fn As B φ=>exact h
  |clr f O =>
   obtain⟨us,Z,h2,h3⟩:=h;exact⟨us,Z,h2,λi c u g1 g2=>(h3 i c u g1 g2).nw I⟩
  |al r j n =>
   simp only[bo];cases y:keys.any (BC r)&&BC (st r).ver n with
   |false=>trivial
   |true =>
    simp only[AV]at y;exact⟨CW _,λ_=>by rw[a5 r y.1];exact h.2 (BA y.2)⟩
  |bp b off =>
   simp only[bo];cases y:keys.any (BC b) with
   |false=>trivial
   |true =>
    obtain⟨Z,h2,h3⟩:=h;exact⟨Z,H b y h2,by rw[hβ];exact h3⟩
  |clo f O =>
   simp only[bo];cases y:O.all (λb=>keys.any (BC b)) with
   |false=>trivial
   |true =>
    obtain⟨Z,h2⟩:=h;rw[BQ]at y;exact⟨by rw[hβ];exact Z,λb a0=>⟨(h2 b a0).1,H b (y b a0) (h2 b a0).2⟩⟩
  |_=>simp only[bo];trivial
 |own p E e =>
  cases M with
  |nil =>
   have hv:v=.slice none 0 0:=h;subst hv;rw[a1 rfl];exact OwH.nil w _ E e
  |own q hh E' e' xs =>
   cases hh with
   |some x=>simp only[bo];trivial
   |none =>
    simp only[bo];cases y:(!q||p) with
    |false=>trivial
    |true =>
     rw[a2 trivial];exact OwH.carry h (z p q y) (λ_ _=>rfl) (λ_ _=>rfl)
  |_=>simp only[bo];trivial
 |ro p E e =>
  cases M with
  |nil =>
   have hv:v=.slice none 0 0:=h;subst hv;exact Rd.nil w _ false E e
  |ro q E' e' xs =>
   simp only[bo];cases y:(!q||p) with
   |false=>trivial
   |true =>
    simp only[cond_true];split
    ·rename_i ys Y;exact Rd.castSh (m:=false) (m':=false) (E:=E) Y (Rd.mono (z p q y) h)
    ·trivial
  |own q hh E' e' xs =>
   cases hh with
   |some x=>simp only[bo];trivial
   |none =>
    have a4:=a3 trivial (by
     simp only[bo];cases (!q||p) with
     |false=>exact id
     |true=>simp only[cond_true];split <;> exact id) ⟨p,E,e,rfl⟩
    simp only[bo];cases y:(!q||p) with
    |false=>trivial
    |true =>
     simp only[cond_true];split
     ·rename_i ys Y;refine Rd.castSh (m:=false) (m':=false) (E:=E) (E':=E') Y (Rd.mono (λk J=>?_) (OwH.rd (m:=false) (E':=E') h));rcases J with J|J
      ·exact z p q y k J
      ·exact .inl (a4 k J)
     ·trivial
  |_=>simp only[bo];trivial
 |rp p =>
  cases M with
  |rpp q a x =>
   simp only[bo];cases y:(!q||p) with
   |false=>trivial
   |true =>
    obtain⟨b,ob,g,o',c,hv,a6,X,hg,hr,Y⟩:=h;exact⟨b,ob,g,o',c,hv,a6.imp (I b) id,X,hg.imp (I g) id,Rd.mono (z p q y) hr,Y⟩
  |rp q a x off =>
   simp only[bo];cases y:(!q||p) with
   |false=>trivial
   |true =>
    obtain⟨g,o',c,hv,hg,hr,Y⟩:=h;exact⟨g,o',c,hv,hg.imp (I g) id,Rd.mono (z p q y) hr,Y⟩
  |_=>simp only[bo];trivial
open Classical in
theorem uL (_hV:ax V){a:Act}{w:World}(h:Rel P V st a w)(live:List (Nat×List Coe))(b0:∀ x∈V.fixb,x.1∈live.map (·.1)):Rel P V (lF live st) a w:=by
 obtain⟨W,h⟩:=h;have J:=zU (st:=st) live;have X:∀ b,Go.Proofs.YtaegajachoklkaaGreatEv.live (lF live st) b->Go.Proofs.YtaegajachoklkaaGreatEv.live st b:=by
  rintro b ⟨H,z⟩;rcases J b with ⟨e,_⟩|⟨cs,e,_⟩
  ·rw[e]at z;cases z
  ·rw[e]at z;exact⟨H,z⟩
 have a1:∀ (q j:Nat) (l:Leaf),(lF live st q).ls[j]?=some l->q∈live.map (·.1)/\∃ r,(st q).ls[j]?=some r/\(l=.dead\/∃ c,l=bo st (live.map (·.1)) c r):=by
  intro q j l Y;rcases J q with ⟨e,_⟩|⟨cs,e,I⟩
  ·rw[e]at Y;simp[bL.none]at Y
  ·rw[e]at Y;exact⟨I,oT _ _ _ _ _ Y⟩
 have b5:∀ (q j:Nat) (l:Leaf),(lF live st q).ls[j]?=some l->am l->∃ r,(st q).ls[j]?=some r/\(am r\/r=.nil):=by
  intro q j l Y ho;obtain⟨_,r,H,z⟩:=a1 q j l Y;rcases z with rfl|⟨c,rfl⟩
  ·exact ho.elim
  ·exact⟨r,H,xu ho⟩
 have a0:∀ b,(live.map (·.1)).any (BC b)=true->b∈live.map (·.1):=λb O=>by
  rw[Bq]at O;obtain⟨x,hx,he⟩:=O;rw[BA he];exact hx
 let y:Nat->Nat->List Nat:=λq j=>if (∃ r,(st q).ls[j]?=some r/\am r) then W.bs q j else []
 let a2:Nat->Prop:=λk=>W.nw k\/∃ q j r l,(st q).ls[j]?=some r/\am r/\(lF live st q).ls[j]?=some l/\¬ am l/\k∈W.bs q j
 have Z:∀ (q j k:Nat),k∈y q j->(∃ r,(st q).ls[j]?=some r/\am r)/\k∈W.bs q j:=by
  intro q j k M;by_cases hc:∃ r,(st q).ls[j]?=some r/\am r
  ·simp only[y,if_pos hc]at M;exact⟨hc,M⟩
  ·simp only[y,if_neg hc]at M;simp at M
 refine⟨{ β:=W.β,cs:=λq=>if q∈live.map (·.1) then W.cs q else [],bs:=y,nw:=a2 },?_⟩
 exact {
  nt:=h.nt,df:=h.df
  slots:=λt ht=>by
   rcases J t with ⟨e,I⟩|⟨cs,e,I⟩
   ·rw[e];simp[I,bL.none,dP]
   ·rw[e];simp only[I,if_true];exact h.slots t ht
  boxes:=λb O=>by
   rcases J b with ⟨e,I⟩|⟨cs,e,I⟩
   ·rw[e];exact .inl ⟨rfl,rfl⟩
   ·rw[e];rcases h.boxes b O with ⟨H,z⟩|⟨H,E,z⟩
    ·exact .inl ⟨H,by rw[z];exact List.eq_nil_of_length_eq_zero (by rw[kA];rfl)⟩
    ·exact .inr ⟨H,E,by simp only[I,if_true];exact z⟩
  len:=λq=>by
   rcases J q with ⟨e,I⟩|⟨cs,e,I⟩
   ·rw[e];simp[I,bL.none]
   ·rw[e];simp only[I,if_true,kA];exact h.len q
  one:=λq u hu=>by
   by_cases I:q∈live.map (·.1)
   ·simp only[I,if_true]at hu;exact h.one q u hu
   ·simp only[I,if_false]at hu;simp at hu
  leaf:=λq j l v Y hv=>by
   obtain⟨I,r,H,z⟩:=a1 q j l Y;simp only[I,if_true]at hv;have b3:=h.leaf q j r v H hv;rcases z with rfl|⟨c,rfl⟩
   ·trivial
   ·refine vU (st:=st) (W:=W) (W':={ β:=W.β,cs:=λq=>if q∈live.map (·.1) then W.cs q else [],bs:=y,nw:=a2 }) (keys:=live.map (·.1)) b3 (λk M=>Or.inl M) rfl (λq hq=>if_pos (a0 q hq)) ?_ ?_ ?_ ?_
    ·intro b O ad;have b4:=a0 b O;rcases J b with ⟨_,a9⟩|⟨cs,e,_⟩
     ·exact absurd b4 a9
     ·rw[e];exact ad
    ·intro ho;show y q j=_;simp only[y,if_pos (⟨r,H,ho⟩:∃ r,(st q).ls[j]?=some r/\am r)]
    ·intro e;show y q j=_;have hc:¬ ∃ r,(st q).ls[j]?=some r/\am r:=by
      rintro⟨l1,h3,h4⟩;rw[H,e]at h3;cases h3;exact h4.elim
     simp only[y,if_neg hc]
    ·intro ho hn _ k M;exact .inr ⟨q,j,r,_,H,ho,Y,hn,M⟩
  ownb:=λq j l Y ho k M=>by
   obtain⟨⟨r,H,z⟩,h3⟩:=Z q j k M;obtain⟨q1,q2,q3⟩:=h.ownb q j r H z k h3;refine⟨?_,q2,λb O=>q3 b (X b O)⟩;rintro (hn|⟨q',j',l1,l2,h4,h5,h6,h7,h8⟩)
   ·exact q1 hn
   ·obtain⟨rfl,rfl⟩:=h.sep q j r q' j' l1 H z h4 h5 k h3 h8;rw[Y]at h6;cases h6;exact h7 ho
  sep:=λq j l q' j' l' _ _ _ _ k M b1=>by
   obtain⟨⟨r,H,z⟩,h3⟩:=Z q j k M;obtain⟨⟨a3,b2,a4⟩,a6⟩:=Z q' j' k b1;exact h.sep q j r q' j' a3 H z b2 a4 k h3 a6
  box:=λb O=>by
   obtain⟨q1,q2⟩:=h.box b (X b O);refine⟨?_,q2⟩;rintro (hn|⟨q',j',l1,l2,h4,h5,h6,h7,h8⟩)
   ·exact q1 hn
   ·exact (h.ownb q' j' l1 h4 h5 _ h8).2.2 b (X b O) rfl
  inj:=λb b' O a5=>h.inj b b' (X b O) (X b' a5)
  nwlt:=λk M=>by
   rcases M with hn|⟨q',j',l1,l2,h4,h5,h6,h7,h8⟩
   ·exact h.nwlt k hn
   ·exact⟨h.own_lt h4 h5 k h8,(h.ownb q' j' l1 h4 h5 k h8).2.1⟩
  os:=h.os,tape:=h.tape,output:=h.output,size:=h.size,keep:=h.keep
  fixb:=λx hx=>by
   obtain⟨⟨H,z⟩,h3⟩:=h.fixb x hx;refine⟨⟨H,?_⟩,h3⟩;rcases J x.1 with ⟨_,I⟩|⟨cs,e,_⟩
   ·exact absurd (b0 x hx) I
   ·rw[e];exact z
  fixt:=h.fixt }
def exOf:Ex->Exit
 |.normal=>.normal
 |.exit id=>.exit id
 |.ret=>.ret
theorem mh {nt:Nat}{fix:List Nat}(u:V.nt=nt)(r:∀ x∈V.fixt,x.1∈fix)(h:k9 nt fix all o=true):bH V o:=by
 intro d H;simp only[k9,H,AV,Be,B3]at h;obtain⟨⟨I,z⟩,_⟩:=h;refine⟨by rw[u];simpa[Bm]using I,λx y e=>?_⟩;exact z _ (r x y) (by simp[e])
end
section
variable {P:Program} {V:Env} {Γ:List Ctr} {T:TypeId->TI} {R:Type}
open Classical in
theorem tx {Q:Exit->Act->World->Prop}{a:Act}{w:World}{c:Code}(J:Nat->Act->World->Prop)(h0:∃ n,J n a w)(hz:∀ a w,¬ J 0 a w)
  (y:∀ n a w,J (n+1) a w->c.wp P (Exit.then (J n) Q) a w):(Code.loop c).wp P Q a w:=by
 have u:∀ (a:Act) (w:World) (n:Nat),J n a w->∃ m,J m a w/\m<=n/\∀ k,J k a w->m<=k:=by
  intro a w n;induction n using CZ with
  |ind n ih =>
   intro z;by_cases h:∃ k,k<n/\J k a w
   ·obtain⟨k,O,hJ⟩:=h;obtain⟨m,r,I,M⟩:=ih k O hJ;exact⟨m,r,by omega,M⟩
   ·refine⟨n,z,CD _,λk O=>?_⟩;apply BV;intro a0;exact h ⟨k,by omega,O⟩
 let H:Act->World->Nat:=λa w=>if h:∃ m,J m a w/\∀ k,J k a w->m<=k then h.choose else 0
 have hμ:∀ a w n,J n a w->J (H a w) a w/\H a w<=n:=by
  intro a w n z;obtain⟨m,r,_,M⟩:=u a w n z;have h:∃ m,J m a w/\∀ k,J k a w->m<=k:=⟨m,r,M⟩;have e:H a w=h.choose:=by simp only[H];rw[dif_pos h]
  rw[e];exact⟨h.choose_spec.1,h.choose_spec.2 n z⟩
 refine wp_loop (λa w=>∃ n,J n a w) H h0 λa w ⟨n,z⟩=>?_
 obtain⟨r,_⟩:=hμ a w n z;cases hm:H a w with
 |zero=>rw[hm]at r;exact absurd r (hz a w)
 |succ m =>
  rw[hm]at r;refine wp_mono (y m a w r) λe Z X Y=>?_
  cases e with
  |normal =>
   have I:J m Z X:=Y;exact⟨⟨m,I⟩,Nat.lt_succ_of_le (hμ Z X m I).2⟩
  |_=>exact Y
theorem yD {st:St}{a:Act}{w:World}(u:Rel P V st a w){t:Nat}(y:t<GH){b:Bool}(H:(st t).sh=.one)(z:(st t).ls=[.bool b]):a.eval (.tmp t)=.bool b:=by
 obtain⟨W,u⟩:=u;have r:=u.slots t y;rw[H]at r;have r:W.cs t=[a.tmps.getD t undef]:=r;have I:=u.leaf t 0 (.bool b) (a.tmps.getD t undef) (by rw[z];rfl) (by rw[r];rfl);exact I
theorem rU (hV:ax V)(hT:TOk P T)(hΓ:∀ c∈Γ,bT P c)(a3:P.follows .mixedOrders=true){fx:List Nat}(a5:∀ x∈V.fixb,x.1∈fx){nt:Nat}{fix:List Nat}(a1:V.nt=nt)(a2:∀ x∈V.fixt,x.1∈fix)
  {L:List (Nat×List (Nat×List Coe))} {O:Nat}:∀ (c:Code),dx nt fix c=true->c8 L fx c=true->∀ (st:St) (I:Ex->St->Option R) (r:R) (Q:Exit->Act->World->Prop),evK Γ T L O c st I=some r ->
   (∀ ex J,I ex J=some r->∀ a w,Rel P V J a w->Q (exOf ex) a w)->∀ a w,Rel P V st a w->c.wp P Q a w:=by
 intro c;induction c with
 |skip=>exact λ_ _ st I r Q h z a w u=>wp_skip (z .normal st h a w u)
 |region id a4 a9 =>
  intro hc hlp st I r Q h z a w u;simp only[dx,BQ]at hc;have a0:∀ (i:Nat) (o:Oper),a4[i]?=some o->k9 nt fix a4 o=true:=λi o hi=>hc o (by simpa using CB hi)
  refine AK hV hT hΓ a3 (λi o hi=>mh a1 a2 (a0 i o hi)) (λi o hi j a6 hg s hs=>?_) h (λJ H a w u=>z .normal J H a w u) u;have:=a0 i o hi;simp only[k9,hg,hs,AV]at this;rw[a1];simpa[Bm]using this.2
 |seq x y Z Y =>
  intro hc hlp st I r Q h z a w u;simp only[dx,AV]at hc;simp only[c8,AV]at hlp;simp only[evK]at h;refine wp_seq (Z hc.1 hlp.1 st _ r _ h (λex J H a w u=>?_) a w u);cases ex with
  |normal=>exact Y hc.2 hlp.2 J I r Q H z a w u
  |exit id=>exact z (.exit id) J H a w u
  |ret=>exact z .ret J H a w u
 |cond t x y Z Y =>
  intro hc hlp st I r Q h z a w u;simp only[dx,AV]at hc;simp only[c8,AV]at hlp;simp only[evK]at h;unfold yK at h;split at h
  ·rename_i t;split at h
   ·rename_i b H h2;have hv:=yD u (CN (by have:=hc.1.1;simp only[vZ,Bm]at this;rw[a1];exact this) hV.nt) H h2;cases b with
    |true =>
     simp only[cond_true]at h;rw[oR H h2]at h;exact wp_cond_true hv (Z hc.1.2 hlp.1 st I r Q h z a w u)
    |false =>
     simp only[cond_false]at h;rw[oR H h2]at h;exact wp_cond_false hv (Y hc.2 hlp.2 st I r Q h z a w u)
   ·cases h
  ·rename_i b;cases b with
   |true=>exact wp_cond_true rfl (Z hc.1.2 hlp.1 st I r Q h z a w u)
   |false=>exact wp_cond_false rfl (Y hc.2 hlp.2 st I r Q h z a w u)
  ·cases h
 |block id c ih =>
  intro hc hlp st I r Q h z a w u;simp only[dx]at hc;simp only[c8]at hlp;simp only[evK]at h;refine wp_block (ih hc hlp st _ r _ h (λex J H a w u=>?_) a w u);cases ex with
  |normal=>exact z .normal J H a w u
  |exit M =>
   simp only[rY]at H;show if M=id then Q .normal a w else Q (.exit M) a w
   by_cases e:M=id
   ·rw[if_pos e];subst e;simp only[Nat.beq_refl,cond_true]at H;exact z .normal J H a w u
   ·rw[if_neg e];have hb:BC M id=false:=by
     cases hb:BC M id with
     |false=>rfl
     |true=>exact absurd (BA hb) e
    rw[hb]at H;exact z (.exit M) J H a w u
  |ret=>exact z .ret J H a w u
 |loop c ih =>
  intro hc hlp st I r Q h z a w u;simp only[dx]at hc;simp only[c8,AV,BQ]at hlp;simp only[evK]at h;have X:∀ x∈V.fixb,x.1∈(k8 L (ey c)).map (·.1):=λx hx=>by
   obtain⟨r,u,he⟩:=Bq.1 (hlp.1 x.1 (a5 x hx));exact BE.2 ⟨r,u,BA he⟩
  refine tx (λn a w=>∃ st,bd (k8 L (ey c)) (evK Γ T L O c) n st I=some r/\Rel P V st a w) ⟨O,_,h,uL hV u _ X⟩ ?_ ?_
  ·rintro a w ⟨st,H,_⟩;cases H
  ·rintro n a w ⟨st,H,u⟩;simp only[bd]at H;refine ih hc hlp.2 st _ r _ H (λex J h2 a w u=>?_) a w u;cases ex with
   |normal=>exact⟨_,h2,uL hV u _ X⟩
   |exit id=>exact z (.exit id) J h2 a w u
   |ret=>exact z .ret J h2 a w u
 |exit id=>exact λ_ _ st I r Q h z a w u=>wp_exit (z (.exit id) st h a w u)
 |ret=>exact λ_ _ st I r Q h z a w u=>wp_ret (z .ret st h a w u)
 |_=>intro _ _ st I r Q h;simp[evK]at h
end
section
variable {P:Program} {Γ:List Ctr} {T:TypeId->TI} {R:Type} {w:World} {ro pr:Nat->Prop}
theorem iE {G:Nat->Prop}{p:Bool}:∀ {b:Ty} {h:Option Nat} {pos:Nat} {x:b.den} {cs:List Value} {bs:List Nat},Mx w G b h pos x cs bs->bs.Nodup ->
  ∃ a3:Nat->List Nat,
   (∀ (V:Env) (W:Wit) (st:St),(∀ k,G k->gd V W p k)->∀ (j:Nat) (l:Leaf) (u:Value),h≠some (pos+j)->(aq p b x)[j]?=some l->cs[j]?=some u->aI P V W st w (a3 j) l u) /\
   (∀ (j:Nat) (l:Leaf),h≠some (pos+j)->(aq p b x)[j]?=some l->am l->∀ k∈a3 j,k∈bs) /\
   (∀ (j J:Nat) (l l':Leaf),h≠some (pos+j)->h≠some (pos+J)->(aq p b x)[j]?=some l->am l->(aq p b x)[J]?=some l'->am l'->∀ k,k∈a3 j->k∈a3 J->j=J)
 |.int k,_,_,x,cs,bs,H,_=>by
  obtain⟨rfl,rfl⟩:=H;exact⟨λ_=>[],λV W st _ j l u _ y X=>by cases j with|zero=>simp[aq]at y X;subst y;subst X;rfl|succ j=>simp[aq]at y,λj l _ y _ k r=>by simp at r,λj J l l' _ _ _ _ _ _ k r=>by simp at r⟩
 |.bool,_,_,x,cs,bs,H,_=>by
  obtain⟨rfl,rfl⟩:=H;exact⟨λ_=>[],λV W st _ j l u _ y X=>by cases j with|zero=>simp[aq]at y X;subst y;subst X;rfl|succ j=>simp[aq]at y,λj l _ y _ k r=>by simp at r,λj J l l' _ _ _ _ _ _ k r=>by simp at r⟩
 |.str,_,_,x,cs,bs,H,_=>by
  obtain⟨rfl,rfl⟩:=H;exact⟨λ_=>[],λV W st _ j l u _ y X=>by cases j with|zero=>simp[aq]at y X;subst y;subst X;rfl|succ j=>simp[aq]at y,λj l _ y _ k r=>by simp at r,λj J l l' _ _ _ _ _ _ k r=>by simp at r⟩
 |.unit,_,_,x,cs,bs,H,_=>by
  obtain⟨rfl,rfl⟩:=H;exact⟨λ_=>[],λV W st _ j l u _ y X=>by simp[aq]at y,λj l _ y _ k r=>by simp at r,λj J l l' _ _ _ _ _ _ k r=>by simp at r⟩
 |.hdr,_,_,x,cs,bs,H,_=>by
  obtain⟨⟨A,a9,rfl⟩,rfl⟩:=H;exact⟨λ_=>[],λV W st _ j l u _ y X=>by cases j with|zero=>simp[aq]at y X;subst y;subst X;exact⟨A,a9,rfl⟩|succ j=>simp[aq]at y,λj l _ y _ k r=>by simp at r,λj J l l' _ _ _ _ _ _ k r=>by simp at r⟩
 |.pair b c,h,pos,x,cs,bs,⟨c1,c2,b1,b2,e1,e2,y,X⟩,Y=>by
  subst e1;subst e2;rw[Bh]at Y;obtain⟨d1,f2,f3,f4⟩:=iE y Y.1;obtain⟨d2,g2,g3,g4⟩:=iE X Y.2.1;have ad:=cq p b x.1;have b0:=y.len;have I:∀ (j:Nat) (l:Leaf),(aq p b x.1++aq p c x.2)[j]?=some l->(j<b.cells/\(aq p b x.1)[j]?=some l)\/(b.cells<=j/\(aq p c x.2)[j-b.cells]?=some l):=by
   intro j l z;by_cases M:j<b.cells
   ·rw[BU (by omega)]at z;exact .inl ⟨M,z⟩
   ·rw[BS (by omega),ad]at z;exact .inr ⟨by omega,z⟩
  have a1:∀ j,b.cells<=j->h≠some (pos+j)->h≠some (pos+b.cells+(j-b.cells)):=λj z hh=>by rwa [show pos+b.cells+(j-b.cells)=pos+j by omega]
  refine⟨λj=>if j<b.cells then d1 j else d2 (j-b.cells),λV W st hG j l u hh z hu=>?_,λj l hh z ho k r=>?_,λj J l l' hh a4 z ho Z a2 k r O=>?_⟩
  ·rcases I j l z with ⟨M,z⟩|⟨a0,z⟩
   ·rw[BU (by omega)]at hu;simp only[if_pos M];exact f2 V W st hG j l u hh z hu
   ·rw[BS (by omega),b0]at hu;simp only[if_neg (show ¬ j<b.cells by omega)];exact g2 V W st hG _ l u (a1 j a0 hh) z hu
  ·rcases I j l z with ⟨M,z⟩|⟨a0,z⟩
   ·simp only[if_pos M]at r;exact AW _ (f3 j l hh z ho k r)
   ·simp only[if_neg (show ¬ j<b.cells by omega)]at r;exact AX _ (g3 _ l (a1 j a0 hh) z ho k r)
  ·rcases I j l z with ⟨M,z⟩|⟨a0,z⟩ <;> rcases I J l' Z with ⟨a6,Z⟩|⟨a5,Z⟩
   ·simp only[if_pos M]at r;simp only[if_pos a6]at O;exact f4 j J l l' hh a4 z ho Z a2 k r O
   ·simp only[if_pos M]at r;simp only[if_neg (show ¬ J<b.cells by omega)]at O;exact absurd rfl (Y.2.2 k (f3 j l hh z ho k r) k (g3 _ l' (a1 J a5 a4) Z a2 k O))
   ·simp only[if_neg (show ¬ j<b.cells by omega)]at r;simp only[if_pos a6]at O;exact absurd rfl (Y.2.2 k (f3 J l' a4 Z a2 k O) k (g3 _ l (a1 j a0 hh) z ho k r))
   ·simp only[if_neg (show ¬ j<b.cells by omega)]at r;simp only[if_neg (show ¬ J<b.cells by omega)]at O;have:=g4 _ _ l l' (a1 j a0 hh) (a1 J a5 a4) z ho Z a2 k r O;omega
 |.list m E e,h,pos,xs,cs,bs,H,Y=>by
  cases m with
  |false =>
   rw[cg]at H;obtain⟨rfl,A,a9,rfl,X,h3⟩:=H;refine⟨λ_=>[],λV W st hG j l u _ y h4=>?_,λj l _ y _ k r=>by simp at r,λj J l l' _ _ _ _ _ _ k r=>by simp at r⟩;cases j with
   |zero =>
    simp[aq]at y h4;subst y;subst h4;exact Rd.mono hG (⟨A,a9,rfl,X,h3⟩:Rd w G (.list false E e) xs _)
   |succ j=>simp[aq]at y
  |true =>
   refine⟨λ_=>bs,λV W st hG j l u hh y h4=>?_,λj l _ y _ k r=>r,λj J l l' _ _ y _ h3 _ k _ _=>?_⟩
   ·cases j with
    |zero =>
     rw[Nat.add_zero]at hh;rw[bB hh]at H;obtain⟨v,rfl,hO⟩:=H;simp[aq]at y h4;subst y;subst h4;exact⟨Y,OwB.shy (hO.carry hG (λ_ _=>rfl) (λ_ _=>rfl))⟩
    |succ j=>simp[aq]at y
   ·have h7:j<1:=by simpa[aq]using (BD.1 y).1
    have h8:J<1:=by simpa[aq]using (BD.1 h3).1
    omega
theorem mi {p:Bool}{off:Nat}:∀ {a:Ty} {pos:Nat} {x:a.den} {E:TypeId} {e:Ty} {xs:List e.den},a7 off a pos x=some ⟨E,e,xs⟩->(aq p a x)[off-pos]?=some (.own (p&&e.shy) none E e xs)
 |.pair a b,pos,x,E,e,xs,h=>by
  have H:=cq p a x.1;simp only[a7]at h;simp only[aq];split at h
  ·rename_i u z;simp only[AT]at h;subst h;have y:=gb z;rw[BU (by omega)];exact mi z
  ·have y:=gb h;rw[BS (by omega),H,show off-pos-a.cells=off-(pos+a.cells) by omega];exact mi h
 |.list m J I,pos,M,E,e,xs,h=>by
  simp only[a7]at h;cases r:m&&BC pos off with
  |false=>simp[r]at h
  |true =>
   rw[r]at h;simp only[cond_true,AT,Sigma.mk.injEq]at h;obtain⟨rfl,h⟩:=h;simp only[AV]at r;obtain⟨rfl,r⟩:=r;have r:=BA r;subst r;rw[heq_eq_eq,Sigma.mk.injEq]at h;obtain⟨rfl,h⟩:=h;rw[heq_eq_eq]at h;subst h;simp[aq]
 |.int _,_,_,_,_,_,h=>by simp[a7]at h
 |.bool,_,_,_,_,_,h=>by simp[a7]at h
 |.str,_,_,_,_,_,h=>by simp[a7]at h
 |.unit,_,_,_,_,_,h=>by simp[a7]at h
 |.hdr,_,_,_,_,_,h=>by simp[a7]at h
theorem tz (V:Env)(W:Wit)(H:V.ro0=ro)(r:V.prot=pr):∀ {cs:List (Bool×Ty)} {x:lA cs} {us:List Value},jj w ro pr cs x us->us.length=(jy true cs x).length /\
  ∀ (i:Nat) (c:Bool×Bool×(a:Ty)×a.den) (u:Value),(jy true cs x)[i]?=some c->us[i]?=some u->iq V W w c u
 |[],_,us,h=>by
  have h:us=[]:=h;subst h;exact⟨rfl,λi c u z _=>by simp[jy]at z⟩
 |c::cs,x,us,⟨u,a0,e,z,h2⟩=>by
  subst e;obtain⟨i1,i2⟩:=tz V W H r h2;refine⟨by simp[jy,i1],λi c' u' M X=>?_⟩;cases i with
  |succ i=>exact i2 i c' u' (by simpa[jy]using M) (by simpa using X)
  |zero =>
   simp[jy]at M X;subst M;subst X;have hG:∀ k,ro k->gd V W true k:=λk hk=>.inr ⟨rfl,by rw[H];exact hk⟩
   unfold iq;unfold gB at z;split at z
   ·rename_i I;simp only[I,if_true];obtain⟨b,ob,g,o,c2,Z,Y,y,O,hr,J⟩:=z;exact⟨b,ob,g,o,c2,Z,.inr (by rw[r];exact Y),y,.inr (by rw[r];exact O),hr.mono hG,J⟩
   ·rename_i I;have I:c.1=false:=by simpa using I
    simp only[I,Bu,if_false];obtain⟨g,o,c2,Z,O,hr,J⟩:=z;exact⟨g,o,c2,by rw[Z];rfl,.inr (by rw[r];exact O),hr.mono hG,J⟩
structure Ent where
 r:Nat
 c:bL
 cs:List Value
 bs:Nat->List Nat
 bl:List Nat
 g:Nat
structure pT (P:Program) (w:World) (ro pr:Nat->Prop) (bx:List (Nat×Nat)) (e:Ent):Prop where
 len:e.c.ls.length=e.cs.length
 one:∀ u∈e.cs,u.oneCell'=true
 leaf:∀ (V:Env) (W:Wit) (st:St),V.w0=w->V.ro0=ro->V.prot=pr->(∀ z∈bx,B0<=z.1/\(st z.1).sh=.agg/\W.β z.1=z.2)->∀ (j:Nat) (l:Leaf) (u:Value),e.c.ls[j]?=some l->e.cs[j]?=some u->aI P V W st w (e.bs j) l u
 own:∀ (j:Nat) (l:Leaf),e.c.ls[j]?=some l->am l->∀ k∈e.bs j,k∈e.bl
 sep:∀ (j j':Nat) (l l':Leaf),e.c.ls[j]?=some l->am l->e.c.ls[j']?=some l'->am l'->∀ k,k∈e.bs j->k∈e.bs j'->j=j'
 box:B0<=e.r->e.c.sh=.agg/\e.g∈e.bl/\(∀ (j:Nat) (l:Leaf),e.c.ls[j]?=some l->am l->e.g∉e.bs j)/\(∃ E,w.heap[e.g]?=some (.cells e.cs.toArray E (0,0)))/\(e.r,e.g)∈bx
theorem pT.mono {u r:List (Nat×Nat)}{e:Ent}(h:pT P w ro pr u e)(y:∀ z∈u,z∈r):pT P w ro pr r e :=
  { len:=h.len,one:=h.one,own:=h.own,sep:=h.sep
    leaf:=λV W st Y H O h4=>h.leaf V W st Y H O (λz M=>h4 z (y z M))
    box:=λhr=>by obtain⟨J,X,I,q4,Z⟩:=h.box hr;exact⟨J,X,I,q4,y _ Z⟩ }
structure vV (P:Program) (w:World) (ro pr:Nat->Prop) (t:Nat) (pk:PK) (v:Value) (b:List Nat) (bx:List (Nat×Nat)) (es:List Ent):Prop where
 bl:es.flatMap (·.bl)=b
 ok:∀ e∈es,pT P w ro pr bx e
 at_:∀ e∈es,e.r=t\/e.r=B0+t
 nod:(es.map (·.r)).Nodup
 slot:∃ e∈es,e.r=t/\dP e.c.sh v e.cs
 bxs:∀ z∈bx,z.1=B0+t/\(∃ e∈es,e.r=B0+t/\e.g=z.2)
theorem tA (t n:Nat){a:Ty}{x:a.den}{v:Value}{cs:List Value}{b:List Nat}(O:b.Nodup)(h1:cQ a.isAgg v cs)(I:Mx w ro a none 0 x cs b)(a0:t<B0) :
    ∃ X,vV P w ro pr t (.own a) v b [] X/\[((t,⟨n,be a.isAgg,aq true a x⟩):Nat×bL)]=X.map (λe=>(e.r,e.c)):=by
  obtain⟨J,m1,m2,m3⟩:=iE (P:=P) (p:=true) I O;have H:∀ j,(none:Option Nat)≠some (0+j):=λj=>by simp
  refine⟨[⟨t,⟨n,be a.isAgg,aq true a x⟩,cs,J,b,0⟩],⟨by simp,?_,by simp,by simp,⟨_,BO _,rfl,jK h1⟩,by simp⟩,rfl⟩;intro e Z;simp only[Ba]at Z;subst Z
  exact { len := by show (aq true a x).length = _; rw [cq, I.len]
          one:=I.one
          leaf:=λV W st _ M _ _ j l u y z=>m1 V W st (λk hk=>.inr ⟨rfl,by rw[M];exact hk⟩) j l u (H j) y z
          own:=λj l y z=>m2 j l (H j) y z
          sep:=λj Y l l' y z h5 h6=>m3 j Y l l' (H j) (H Y) y z h5 h6
          box:=λhr=>absurd hr (by show ¬ B0<=t;omega) }
theorem nG (t:Nat){l:Leaf}{v:Value}{pk:PK}(a0:t<B0)(J:¬ am l)(h1:v.oneCell'=true)(y:∀ (V:Env) (W:Wit) (st:St),V.w0=w->V.ro0=ro->V.prot=pr->aI P V W st w [] l v) :
    ∃ Z,vV P w ro pr t pk v [] [] Z/\[((t,⟨0,.one,[l]⟩):Nat×bL)]=Z.map (λe=>(e.r,e.c)):=by
  refine⟨[⟨t,⟨0,.one,[l]⟩,[v],λ_=>[],[],0⟩],⟨by simp,?_,by simp,by simp,⟨_,BO _,rfl,rfl⟩,by simp⟩,rfl⟩;intro e he;simp only[Ba]at he;subst he;have M:∀ (j:Nat) (z:Leaf),[l][j]?=some z->j=0/\z=l:=λj z Y=>by
    cases j with
    |zero=>simp at Y;exact⟨rfl,Y.symm⟩
    |succ j=>simp at Y
  exact { len := rfl
          one:=λu hu=>by simp at hu;subst hu;exact h1
          leaf:=λV W st hw X O _ j z u I H=>by
            obtain⟨rfl,rfl⟩:=M j z I;simp at H;subst H;exact y V W st hw X O
          own:=λj z I H=>by obtain⟨_,rfl⟩:=M j z I;exact absurd H J
          sep:=λj j' l1 l2 I H=>by obtain⟨_,rfl⟩:=M j l1 I;exact absurd H J
          box:=λhr=>absurd hr (by show ¬ B0<=t;omega) }
def tB:Value->Nat
 |.pointer (some a)=>a.block
 |_=>0
def dN (t:Nat):List PK->List Value->List (Nat×Nat)
 |.iop _::r,v::u=>(B0+t,tB v)::dN (t+1) r u
 |_::r,_::u=>dN (t+1) r u
 |_,_=>[]
def dO (t:Nat):List PK->List Value->List (Nat×Value)
 |.io _::r,v::u=>(t,v)::dO (t+1) r u
 |.iop _::r,v::u=>(t,v)::dO (t+1) r u
 |_::r,_::u=>dO (t+1) r u
 |_,_=>[]
def PK.bx (t:Nat)(v:Value):PK->List (Nat×Nat)
 |.iop _=>[(B0+t,tB v)]
 |_=>[]
theorem AL (t:Nat)(a0:t<B0){pk:PK}{ps:List PK}{x:ab (pk::ps)}{v:Value}{b:List Nat}(a1:b.Nodup)(h:nD P w ro pr pk x.1 v b) :
    ∃ es,vV P w ro pr t pk v b (pk.bx t v) es/\cK t (pk::ps) x=es.map (λe=>(e.r,e.c))++cK (t+1) ps x.2:=by
  cases pk with
  |rd a =>
    obtain⟨rfl,cs,h1,h2⟩:=h;refine⟨[⟨t,⟨0,be a.isAgg,cr true a x.1⟩,cs,λ_=>[],[],0⟩],⟨by simp,?_,by simp,by simp,⟨_,BO _,rfl,jK h1⟩,by simp[PK.bx]⟩,rfl⟩;intro e he;simp only[Ba]at he;subst he;have b5:∀ (V:Env) (W:Wit) (st:St),V.ro0=ro->aC P V W st w (cr true a x.1) cs:=λV W st I=>eE (G:=ro) (λk J=>.inr ⟨rfl,by rw[I];exact J⟩) h2
    have ba:∀ (j:Nat) (l:Leaf),(cr true a x.1)[j]?=some l->¬ am l:=λj l M=>by
      have hl:=gw true a x.1;have hc:=h2.len;have c1:=(BD.1 M).1;exact ((b5 ⟨w,ro,[],0,[],[]⟩ ⟨λ_=>0,λ_=>[],λ_ _=>[],λ_=>False⟩ (λ_=>bL.none) rfl).at_ j l _ M (BK (by omega))).2.1
    exact { len := by show (cr true a x.1).length = _; rw [gw, h2.len]
            one:=h2.one
            leaf:=λV W st _ I _ _ j l u y H=>((b5 V W st I).at_ j l u y H).1
            own:=λj l y H=>absurd H (ba j l y)
            sep:=λj j' l l' y H=>absurd H (ba j l y)
            box:=λhr=>absurd hr (by show ¬ B0<=t;omega) }
  |own a =>
    obtain⟨cs,h1,h2⟩:=h;obtain⟨es,y,H⟩:=tA (P:=P) (pr:=pr) t 0 a1 h1 h2 a0;exact⟨es,⟨y.bl,y.ok,y.at_,y.nod,y.slot,y.bxs⟩,by rw[<- H];rfl⟩
  |io a =>
    obtain⟨cs,h1,h2⟩:=h;obtain⟨es,y,H⟩:=tA (P:=P) (pr:=pr) t 7 a1 h1 h2 a0;exact⟨es,⟨y.bl,y.ok,y.at_,y.nod,y.slot,y.bxs⟩,by rw[<- H];rfl⟩
  |rref a =>
    obtain⟨rfl,h⟩:=h;unfold gB at h;rw[if_neg (by simp)]at h;obtain⟨g,o,c,hv,hg,hr,hc⟩:=h;subst hv;obtain⟨es,y,H⟩:=nG (P:=P) (w:=w) (ro:=ro) (pr:=pr) t (pk:=.rref a) (l:=.rp true a x.1 0) (v:=.pointer (some ⟨g,o,none⟩)) a0 id rfl (λV W st hw I X=>⟨g,o,c,rfl,.inr (by rw[X];exact hg),hr.mono (λk J=>.inr ⟨rfl,by rw[I];exact J⟩),hc⟩);exact⟨es,y,by rw[<- H];rfl⟩
  |rref2 a =>
    obtain⟨rfl,h⟩:=h;unfold gB at h;rw[if_pos rfl]at h;obtain⟨b,ob,g,o,c,hv,hb,a6,hg,hr,hc⟩:=h;subst hv;obtain⟨es,y,H⟩:=nG (P:=P) (w:=w) (ro:=ro) (pr:=pr) t (pk:=.rref2 a) (l:=.rpp true a x.1) (v:=.pointer (some ⟨b,ob,none⟩)) a0 id rfl (λV W st hw I X=>⟨b,ob,g,o,c,rfl,.inr (by rw[X];exact hb),a6,.inr (by rw[X];exact hg),hr.mono (λk J=>.inr ⟨rfl,by rw[I];exact J⟩),hc⟩);exact⟨es,y,by rw[<- H];rfl⟩
  |fn As B =>
    obtain⟨rfl,h⟩:=h;have bn:v.oneCell'=true:=by
      obtain⟨f,c0,e,_⟩:=h;rw[e];rfl
    obtain⟨es,y,H⟩:=nG (P:=P) (w:=w) (ro:=ro) (pr:=pr) t (pk:=.fn As B) (l:=.fn As B x.1) (v:=v) a0 id bn (λV W st hw I X=>by
      show gT P V.w0 V.prot As B x.1 v;rw[hw,X];exact h)
    exact⟨es,y,by rw[<- H];rfl⟩
  |clo f cs =>
    obtain⟨rfl,us,e,h⟩:=h;subst e;obtain⟨es,y,H⟩:=nG (P:=P) (w:=w) (ro:=ro) (pr:=pr) t (pk:=.clo f cs) (l:=.clr f (jy true cs x.1)) (v:=.func (.func f) #[] us.toArray) a0 id rfl (λV W st hw I X=>by
      obtain⟨i1,i2⟩:=tz V W I X h;exact⟨us,rfl,i1,i2⟩)
    exact⟨es,y,by rw[<- H];rfl⟩
  |iop a =>
    obtain⟨g,c,E,b0,hv,hg,hm,rfl⟩:=h;subst hv;rw[Bb]at a1;obtain⟨a5,m1,m2,m3⟩:=iE (P:=P) (p:=true) hm a1.2;have hn:∀ j,(none:Option Nat)≠some (0+j):=λj=>by simp
    have Y:t≠B0+t:=by simp[B0]
    refine⟨[⟨t,⟨0,.one,[.bp (B0+t) 0]⟩,[.pointer (some ⟨g,0,none⟩)],λ_=>[],[],0⟩,⟨B0+t,⟨0,.agg,aq true a x.1⟩,c,a5,g::b0,g⟩],
      ⟨by simp,?_,λe he=>by simp at he;rcases he with rfl|rfl <;> simp,by rw[BR,BR,Cc,Bb];exact⟨by simpa using Y,by simp⟩,⟨_,AZ ..,rfl,rfl⟩,λz hz=>?_⟩,rfl⟩
    · intro e he
      simp only[BH,List.not_mem_nil,or_false]at he;rcases he with rfl|rfl
      · have h0:∀ (j:Nat) (l':Leaf),[Leaf.bp (B0+t) 0][j]?=some l'->j=0/\l'=.bp (B0+t) 0:=λj l' M=>by
          cases j with
          |zero=>simp at M;exact⟨rfl,M.symm⟩
          |succ j=>simp at M
        exact { len := rfl
                one:=λu hu=>by simp at hu;subst hu;rfl
                leaf:=λV W st hw I X hb j l' u y H=>by
                  obtain⟨rfl,rfl⟩:=h0 j l' y;simp at H;subst H;obtain⟨q1,q2,q3⟩:=hb (B0+t,g) (BO _);exact⟨q1,q2,by rw[q3]⟩
                own:=λj l' y H=>by obtain⟨_,rfl⟩:=h0 j l' y;exact H.elim
                sep:=λj j' l1 l2 y H=>by obtain⟨_,rfl⟩:=h0 j l1 y;exact H.elim
                box:=λhr=>absurd hr (by show ¬ B0<=t;omega) }
      · exact { len := by show (aq true a x.1).length = _; rw [cq, hm.len]
                one:=hm.one
                leaf:=λV W st _ I _ _ j l u y H=>m1 V W st (λk J=>.inr ⟨rfl,by rw[I];exact J⟩) j l u (hn j) y H
                own:=λj l y H k J=>AY _ (m2 j l (hn j) y H k J)
                sep:=λj j' l l' y H h5 h6=>m3 j j' l l' (hn j) (hn j') y H h5 h6
                box:=λ_=>⟨rfl,AZ ..,λj l y H J=>a1.1 (m2 j l (hn j) y H g J),⟨E,hg⟩,BO _⟩ }
    · simp only[PK.bx,Ba]at hz
      subst hz;exact⟨rfl,_,AY _ (BO _),rfl,rfl⟩
  |hol a c off =>
    obtain⟨cs,u,b0,b1,E,e,xs,h1,h2,y,H,h5,h6⟩:=h;have a2:=bm.1 a1;have b4:b0.Nodup:=bm.2 λk=>by have:=a2 k;have:=h6 k;omega
    have ad:b1.Nodup:=bm.2 λk=>by have:=a2 k;have:=h6 k;omega
    have a4:∀ k,k∈b0->k∉b1:=λk J Z=>by
      have:=a2 k;have:=h6 k;have:=BP.2 J;have:=BP.2 Z;omega
    have b3:∀ k∈b0,k∈b:=λk J=>BP.1 (by have:=h6 k;have:=BP.2 J;omega)
    have b9:∀ k∈b1,k∈b:=λk J=>BP.1 (by have:=h6 k;have:=BP.2 J;omega)
    obtain⟨a5,m1,m2,m3⟩:=iE (P:=P) (p:=true) h2 b4;have Y:∀ j,j≠c->(some c:Option Nat)≠some (0+j):=λj M=>by simp;omega
    have b2:=mi (p:=true) H;rw[Nat.sub_zero]at b2;have bb:(aq true a x.1.1).getD c .dead=.own (true&&e.shy) none E e xs:=by rw[BI,b2];rfl
    refine⟨[⟨t,⟨0,be a.isAgg,aP (aq true a x.1.1) c (.own (true&&e.shy) (some (x.1.2,off)) E e xs)⟩,cs,λj=>if j=c then b1 else a5 j,b,0⟩],
      ⟨by simp,?_,by simp,by simp,⟨_,BO _,rfl,jK h1⟩,by simp[PK.bx]⟩,?_⟩
    · intro en he
      simp only[Ba]at he;subst he;have O:∀ (j:Nat) (l:Leaf),(aP (aq true a x.1.1) c (.own (true&&e.shy) (some (x.1.2,off)) E e xs))[j]?=some l->(j=c/\l=.own (true&&e.shy) (some (x.1.2,off)) E e xs)\/(j≠c/\(aq true a x.1.1)[j]?=some l):=by
        intro j l M;rcases aO _ _ _ _ _ M with ⟨q1,q2,_⟩|⟨q1,q2⟩
        · exact .inl ⟨q1,q2⟩
        · exact .inr ⟨q1,q2⟩
      exact { len := by show (aP (aq true a x.1.1) c _).length = _; simp only [aP, List.length_set]; rw [cq, h2.len]
              one:=h2.one
              leaf:=λV W st _ I _ _ j l u' h7 h8=>by
                have h8:cs[j]?=some u':=h8;rcases O j l h7 with ⟨rfl,rfl⟩|⟨M,h7⟩
                · rw[y]at h8
                  simp only[AT]at h8;subst h8;simp only[if_true];exact⟨ad,OwB.shy (p:=true) (h5.carry (λk J=>.inr ⟨rfl,by rw[I];exact J⟩) (λ_ _=>rfl) (λ_ _=>rfl))⟩
                · simp only[if_neg M]
                  exact m1 V W st (λk J=>.inr ⟨rfl,by rw[I];exact J⟩) j l u' (Y j M) h7 h8
              own:=λj l h7 h8 k J=>by
                rcases O j l h7 with ⟨rfl,rfl⟩|⟨M,h7⟩
                · simp only[if_true]at J;exact b9 k J
                · simp only[if_neg M]at J;exact b3 k (m2 j l (Y j M) h7 h8 k J)
              sep:=λj j' l l' h7 h8 h9 a9 k J Z=>by
                rcases O j l h7 with ⟨rfl,rfl⟩|⟨M,h7⟩ <;> rcases O j' l' h9 with ⟨rfl,rfl⟩|⟨a3,h9⟩
                · rfl
                · simp only[if_true]at J;simp only[if_neg a3]at Z
                  exact absurd J (a4 k (m2 j' l' (Y j' a3) h9 a9 k Z))
                · simp only[if_neg M]at J;simp only[if_true]at Z
                  exact absurd Z (a4 k (m2 j l (Y j M) h7 h8 k J))
                · simp only[if_neg M]at J;simp only[if_neg a3]at Z
                  exact m3 j j' l l' (Y j M) (Y j' a3) h7 h8 h9 a9 k J Z
              box:=λhr=>absurd hr (by show ¬ B0<=t;omega) }
    · show (t,(⟨0,be a.isAgg,aP (aq true a x.1.1) c (uh x.1.2 off ((aq true a x.1.1).getD c .dead))⟩:bL))::cK (t+1) ps x.2=_
      rw[bb];rfl
theorem tC:∀ {ps:List PK} {x:ab ps} {u:List Value} {r:List (List Nat)},cO P w ro pr ps x u r->u.length=ps.length
 |[],_,_,_,h=>by rw[h.1];rfl
 |_::_,_,_,_,⟨_,_,_,_,e,_,_,h⟩=>by rw[e,Bg,Bg,tC h]
theorem uM:∀ (ps:List PK) (x:ab ps) (Z:List Value) (H:List (List Nat)) (t:Nat),cO P w ro pr ps x Z H->H.flatten.Nodup->t+ps.length<=B0 ->
  ∃ J:List Ent,cK t ps x=J.map (λe=>(e.r,e.c))/\J.flatMap (·.bl)=H.flatten/\(∀ e∈J,pT P w ro pr (dN t ps Z) e) /\
   (∀ e∈J,(t<=e.r/\e.r<t+ps.length)\/(B0+t<=e.r/\e.r<B0+t+ps.length))/\(J.map (·.r)).Nodup /\
   (∀ (i:Nat) (v:Value),Z[i]?=some v->∃ e∈J,e.r=t+i/\dP e.c.sh v e.cs)/\(∀ z∈dN t ps Z,∃ e∈J,e.r=z.1/\e.g=z.2/\B0<=z.1)
 |[],x,Z,H,t,⟨e1,e2⟩,_,_=>by
  subst e1;subst e2;exact⟨[],rfl,rfl,by simp,by simp,by simp,λi v h=>by simp at h,by simp[dN]⟩
 |pk::ps,x,Z,H,t,⟨v,M,b,a0,e1,e2,h1,h2⟩,Y,hB=>by
  subst e1;subst e2;rw[BJ,Bh]at Y;simp only[Bg]at hB;obtain⟨a2,O,p2⟩:=AL t (by omega) (ps:=ps) (x:=x) Y.1 h1;obtain⟨a4,q1,q2,q3,q4,q5,q6,q7⟩:=uM ps x.2 M a0 (t+1) h2 Y.2.1 (by omega);have a1:dN t (pk::ps) (v::M)=pk.bx t v++dN (t+1) ps M:=by cases pk <;> rfl
  refine⟨a2++a4,by rw[p2,q1,Bs],by rw[List.flatMap_append,O.bl,q2,BJ],λe y=>?_,λe y=>?_,?_,λi u hi=>?_,λz I=>?_⟩
  ·rw[a1];rcases AU.1 y with y|y
   ·exact (O.ok e y).mono (λz I=>AW _ I)
   ·exact (q3 e y).mono (λz I=>AX _ I)
  ·simp only[Bg];rcases AU.1 y with y|y
   ·rcases O.at_ e y with h|h <;> omega
   ·rcases q4 e y with h|h <;> omega
  ·rw[Bs,Bh];refine⟨O.nod,q5,λa ha b' a3 e0=>?_⟩;subst e0;obtain⟨e,y,rfl⟩:=BE.1 ha;obtain⟨e',a5,e1⟩:=BE.1 a3;rcases O.at_ e y with h|h <;> rcases q4 e' a5 with h'|h' <;> omega
  ·cases i with
   |zero =>
    simp at hi;subst hi;obtain⟨e,y,h3,X⟩:=O.slot;exact⟨e,AW _ y,by omega,X⟩
   |succ i =>
    obtain⟨e,y,h3,X⟩:=q6 i u (by simpa using hi);exact⟨e,AX _ y,by omega,X⟩
  ·rw[a1]at I;rcases AU.1 I with I|I
   ·obtain⟨h3,e,y,X,h5⟩:=O.bxs z I;exact⟨e,AW _ y,by rw[X,h3],h5,by rw[h3];exact Nat.le_add_right _ _⟩
   ·obtain⟨e,y,X,h5,h6⟩:=q7 z I;exact⟨e,AX _ y,X,h5,h6⟩
def fR (w:World)(ro:Nat->Prop)(ps:List PK)(u:List Value)(r:List (List Nat))(nt:Nat):Env:=⟨w,ro,r.flatten,nt,dN 0 ps u,dO 0 ps u⟩
theorem nH:∀ {I:List Ent},(I.flatMap (·.bl)).Nodup->∀ e∈I,∀ y∈I,∀ k,k∈e.bl->k∈y.bl->e=y
 |[],_,e,M,_,_,_,_,_=>by simp at M
 |x::I,u,e,M,y,O,k,J,r=>by
  rw[List.flatMap_cons,Bh]at u;rcases BH.1 M with H|H <;> rcases BH.1 O with z|z
  ·rw[H,z]
  ·rw[H]at J;exact absurd rfl (u.2.2 k J k (BM.2 ⟨y,z,r⟩))
  ·rw[z]at r;exact absurd rfl (u.2.2 k r k (BM.2 ⟨e,H,J⟩))
  ·exact nH u.2.1 e H y z k J r
theorem xv:∀ {I:List Ent},(I.map (·.r)).Nodup->∀ e∈I,∀ y∈I,e.r=y.r->e=y
 |[],_,e,J,_,_,_=>by simp at J
 |x::I,u,e,J,y,M,O=>by
  rw[BR,Bb]at u;rcases BH.1 J with H|H <;> rcases BH.1 M with z|z
  ·rw[H,z]
  ·exact absurd (BE.2 ⟨y,z,by rw[<- O,H]⟩) u.1
  ·exact absurd (BE.2 ⟨e,H,by rw[O,z]⟩) u.1
  ·exact xv u.2 e H y z O
theorem rm:∀ (u:List Ent) (q:Nat),(av (u.map λe=>(e.r,e.c)) q=bL.none/\u.find? (λe=>e.r==q)=none)\/∃ e∈u,e.r=q/\u.find? (λe=>e.r==q)=some e/\av (u.map λe=>(e.r,e.c)) q=e.c
 |[],q=>.inl ⟨rfl,rfl⟩
 |e::u,q=>by
  by_cases h:e.r=q
  ·refine .inr ⟨e,AZ ..,h,by simp[h],?_⟩;simp[av,ac,h]
  ·have y:BC q e.r=false:=by
    cases y:BC q e.r with
    |false=>rfl
    |true=>exact absurd (BA y).symm h
   have X:av ((e::u).map λe=>(e.r,e.c)) q=av (u.map λe=>(e.r,e.c)) q:=by simp[av,ac,y]
   have J:(e::u).find? (λe=>e.r==q)=u.find? (λe=>e.r==q):=by simp[h]
   rw[X,J];rcases rm u q with z|⟨H,z,M,I,O⟩
   ·exact .inl z
   ·exact .inr ⟨H,AY _ z,M,I,O⟩
theorem uN:∀ {ps:List PK} {r:List Value} {t:Nat} {z:Nat×Value},z∈dO t ps r->∃ i,z.1=t+i/\r[i]?=some z.2
 |[],_,_,_,h=>by simp[dO]at h
 |u::ps,[],_,_,h=>by cases u <;> simp[dO]at h
 |u::ps,v::r,t,z,h=>by
  have:z=(t,v)\/z∈dO (t+1) ps r:=by cases u <;> simp[dO]at h <;> first|exact h|exact .inr h
  rcases this with rfl|h
  ·exact⟨0,rfl,rfl⟩
  ·obtain⟨i,H,y⟩:=uN h;exact⟨i+1,by omega,by simpa using y⟩
theorem uO {ps:List PK}{x:ab ps}{O:List Value}{J:List (List Nat)}{nt:Nat}(h:cO P w ro (λk=>k<w.heap.size/\k∉J.flatten) ps x O J)(a2:J.flatten.Nodup)
  (c4:ps.length<=nt) (hB:nt<=GH):Rel P (fR w ro ps O J nt) (av (cK 0 ps x)) { tmps:=O.toArray++Bc (nt-O.length) undef,defers:=[] } w:=by
 have c3:=tC h;have c5:GH<=B0:=by decide
 obtain⟨X,q1,q2,q3,q4,q5,q6,q7⟩:=uM ps x O J 0 h a2 (by omega);rw[q1];have b5:=rm X;have a3:∀ e∈X,∀ H∈X,e.r=H.r->e=H:=by
  intro e he H c2 hr;exact xv q5 e he H c2 hr
 rw[<- q2]at a2;have a0:∀ e∈X,∀ k∈e.bl,k∈J.flatten:=λe he k hk=>by rw[<- q2];exact BM.2 ⟨e,he,hk⟩
 have hE:∀ q,(av (X.map λe=>(e.r,e.c)) q=bL.none/\X.find? (λe=>e.r==q)=none)\/∃ e∈X,e.r=q/\X.find? (λe=>e.r==q)=some e/\av (X.map λe=>(e.r,e.c)) q=e.c:=b5;have a1:∀ q,live (av (X.map λe=>(e.r,e.c))) q->∃ e∈X,e.r=q/\B0<=e.r/\X.find? (λe=>e.r==q)=some e:=by
  rintro q ⟨h1,h2⟩;rcases hE q with ⟨I,_⟩|⟨e,I,y,h5,M⟩
  ·rw[I]at h2;cases h2
  ·exact⟨e,I,y,by rw[y];exact h1,h5⟩
 let β:Nat->Nat:=λq=>match X.find? (λe=>e.r==q) with|some e=>e.g|none=>0
 let cs:Nat->List Value:=λq=>match X.find? (λe=>e.r==q) with|some e=>e.cs|none=>[]
 let bs:Nat->Nat->List Nat:=λq j=>match X.find? (λe=>e.r==q) with|some e=>e.bs j|none=>[]
 have a9:∀ z∈dN 0 ps O,B0<=z.1/\(av (X.map λe=>(e.r,e.c)) z.1).sh=.agg/\β z.1=z.2:=by
  intro z hz;obtain⟨e,he,h1,h2,I⟩:=q7 z hz;refine⟨I,?_⟩;rcases hE z.1 with ⟨_,y⟩|⟨H,y,h5,M,Z⟩
  ·exfalso;rw[CO]at y;exact y e he (by simp[h1])
  ·have:H=e:=a3 H y e he (by rw[h5,h1]);subst this;rw[Z];exact⟨((q3 H he).box (by rw[h1];exact I)).1,by simp only[β,M];exact h2⟩
 refine⟨{ β:=β,cs:=cs,bs:=bs,nw:=λ_=>False },?_⟩;have c0:(fR w ro ps O J nt).prot=λk=>k<w.heap.size/\k∉J.flatten:=rfl
 exact {
  nt:=by show (O.toArray++Bc (nt-O.length) undef).size=nt;simp;omega
  df:=rfl
  slots:=λt ht=>by
   show dP _ ((O.toArray++Bc (nt-O.length) undef).getD t undef) (cs t);by_cases hq:t<ps.length
   ·have hv:=BK (show t<O.length by omega);have:(O.toArray++Bc (nt-O.length) undef).getD t undef=O[t]:=by
     rw[BG,Bx (by simp;omega)];simp[hv]
    rw[this];obtain⟨e,he,h1,h2⟩:=q6 t _ hv;rw[Bk]at h1;rcases hE t with ⟨_,y⟩|⟨H,y,h5,M,Z⟩
    ·exfalso;rw[CO]at y;exact y e he (by simp[h1])
    ·have:H=e:=a3 H y e he (by rw[h5,h1]);subst this;rw[Z];simp only[cs,M];exact h2
   ·rcases hE t with ⟨I,y⟩|⟨H,y,h5,M,Z⟩
    ·rw[I];simp only[cs,y];rfl
    ·rcases q4 H y with h8|h8 <;> omega
  boxes:=λb hb=>by
   rcases hE b with ⟨I,y⟩|⟨H,y,h5,M,Z⟩
   ·rw[I];exact .inl ⟨rfl,rfl⟩
   ·obtain⟨g1,g2,g3,⟨E,g4⟩,g5⟩:=(q3 H y).box (by rw[h5];exact hb);rw[Z];exact .inr ⟨g1,E,by simp only[β,cs,M];exact g4⟩
  len:=λq=>by
   rcases hE q with ⟨I,y⟩|⟨H,y,h5,M,Z⟩
   ·rw[I];simp only[cs,y];rfl
   ·rw[Z];simp only[cs,M];exact (q3 H y).len
  one:=λq u hu=>by
   have hu:u∈cs q:=hu;rcases hE q with ⟨I,y⟩|⟨H,y,h5,M,Z⟩
   ·simp only[cs,y]at hu;simp at hu
   ·simp only[cs,M]at hu;exact (q3 H y).one u hu
  leaf:=λq j l v Y hv=>by
   have hv:(cs q)[j]?=some v:=hv;rcases hE q with ⟨I,y⟩|⟨H,y,h5,M,Z⟩
   ·rw[I]at Y;simp[bL.none]at Y
   ·rw[Z]at Y;simp only[cs,M]at hv;show aI P _ _ _ w (bs q j) l v;simp only[bs,M];exact (q3 H y).leaf (fR w ro ps O J nt) _ _ rfl rfl rfl a9 j l v Y hv
  ownb:=λq j l Y ho k hk=>by
   have hk:k∈bs q j:=hk;rcases hE q with ⟨I,y⟩|⟨H,y,h5,M,Z⟩
   ·rw[I]at Y;simp[bL.none]at Y
   ·rw[Z]at Y;simp only[bs,M]at hk;have b1:=(q3 H y).own j l Y ho k hk;refine⟨id,λhp=>hp.2 (a0 H y k b1),λb hb e0=>?_⟩;obtain⟨e2,g1,g2,g3,g4⟩:=a1 b hb;have a6:=(q3 e2 g1).box g3;have e0:β b=k:=e0;simp only[β,g4]at e0;have:=nH a2 H y e2 g1 k b1 (by rw[<- e0];exact a6.2.1);subst this;exact a6.2.2.1 j l Y ho (by rw[e0];exact hk)
  sep:=λq j l q' j' l' Y ho a5 b0 k hk a4=>by
   have hk:k∈bs q j:=hk;have a4:k∈bs q' j':=a4;rcases hE q with ⟨I,y⟩|⟨e1,y,h5,M,Z⟩
   ·rw[I]at Y;simp[bL.none]at Y
   ·rcases hE q' with ⟨b4,ad⟩|⟨e2,ad,bb,b3,bn⟩
    ·rw[b4]at a5;simp[bL.none]at a5
    ·rw[Z]at Y;rw[bn]at a5;simp only[bs,M]at hk;simp only[bs,b3]at a4;have:=nH a2 e1 y e2 ad k ((q3 e1 y).own j l Y ho k hk) ((q3 e2 ad).own j' l' a5 b0 k a4);subst this;exact⟨by rw[<- h5,<- bb],(q3 e1 y).sep j j' l l' Y ho a5 b0 k hk a4⟩
  box:=λb hb=>by
   obtain⟨e2,g1,g2,g3,g4⟩:=a1 b hb;have a6:=(q3 e2 g1).box g3;refine⟨id,λhp=>hp.2 ?_⟩;show β b∈_;simp only[β,g4];exact a0 e2 g1 _ a6.2.1
  inj:=λb b' hb b9 e0=>by
   obtain⟨e1,g1,g2,g3,g4⟩:=a1 b hb;obtain⟨e2,b2,c1,ba,bx⟩:=a1 b' b9;have e0:β b=β b':=e0;simp only[β,g4,bx]at e0;have:=nH a2 e1 g1 e2 b2 e1.g ((q3 e1 g1).box g3).2.1 (by rw[e0];exact ((q3 e2 b2).box ba).2.1);subst this;rw[<- g2,<- c1]
  nwlt:=λk hk=>hk.elim
  os:=rfl,tape:=rfl,output:=rfl,size:=CD _,keep:=λ_ _=>rfl
  fixb:=λz hz=>by
   obtain⟨h1,h2,I⟩:=a9 z hz;exact⟨⟨h1,h2⟩,I⟩
  fixt:=λz hz=>by
   obtain⟨i,h1,h2⟩:=uN hz;rw[Bk]at h1;show (O.toArray++Bc (nt-O.length) undef).getD z.1 undef=z.2;rw[h1,BG,Bx (by simpa using (BD.1 h2).1)];simp[h2] }
end
section
variable {P:Program} {V:Env} {W:Wit} {Γ:List Ctr} {T:TypeId->TI} {R:Type} {st:St} {a:Act} {w:World} {ro:Nat->Prop}
theorem AM (hT:TOk P T)(h:an P V W st a w)(x:ResultVar)(y:oZ st T x≠.off) :
  ∃ v X,(match x with|.tmp t=>(pure (a.tmps.getD t undef):Sem Value)|.cell b t=>(do loadVar t (<- asAddr (a.tmps.getD b undef)):Sem Value)).run P w=.ok v w /\
   dP (oZ st T x) v X/\aC P V W st w (uS st T x) X:=by
 cases x with
 |tmp t =>
  obtain⟨X,h1,J⟩:=cC h (.tmp t);exact⟨_,X,rfl,h1,J⟩
 |cell t u =>
  simp only[oZ]at y ⊢;split at y
  ·rename_i b off Z;cases M:decide ((st b).sh=.agg)&&CF (off+(T u).cells) (st b).ls.length&&!BC (T u).cells 0 with
   |false=>rw[M]at y;exact absurd rfl y
   |true =>
    simp only[Z,M,cond_true,uS];simp only[AV,decide_eq_true_eq,Be]at M;obtain⟨⟨h1,J⟩,h3⟩:=M;have J:off+(T u).cells<=(st b).ls.length:=BW J;have Y:T u≠.none:=by
     intro e;rw[e]at h3;simp[TI.cells]at h3
    obtain⟨hp,_,_,_,_⟩:=bk h (.tmp t) (by rw[Z];simp);rw[Z]at hp;obtain⟨hB,a0,H⟩:=hp;have H:a.tmps.getD t undef=.pointer (some ⟨W.β b,off,none⟩):=H;rcases h.boxes b hB with ⟨O,_⟩|⟨_,E,O⟩
    ·rw[a0]at O;cases O
    ·have r:cF w (W.β b) 0 (W.cs b):=λi v H=>by
      rw[Bk,cell_of_row w (W.β b) i _ E (0,0) O];simpa using H
     have a2:=h.len b;have I:=r.sub off (T u).cells;rw[Bk]at I;obtain⟨v,z,a1⟩:=nL (hT u) Y I (by simp;omega);refine⟨v,_,?_,a1,((ia h b).drop off).take _⟩;simp only[H];simpa[asAddr]using z
  ·exact absurd rfl y
def nh (a:Act):ResultVar->Sem Value
 |.tmp t=>pure (a.tmps.getD t undef)
 |.cell b t=>do loadVar t (<- asAddr (a.tmps.getD b undef))
def ni (P:Program)(a:Act)(w:World):List ResultVar->List Value->Prop
 |[],u=>u=[]
 |x::y,u=>∃ v r,u=v::r/\(nh a x).run P w=.ok v w/\ni P a w y r
theorem rq:∀ (l:List ResultVar) (u:List Value),ni P a w l u->(l.mapM (nh a)).run P w=.ok u w
 |[],_,h=>by rw[show _=_ from h];rfl
 |x::l,_,⟨v,r,e,z,y⟩=>by subst e;simp[CE,z,rq l r y]
theorem zV (b:Bool):be b≠.off:=by cases b <;> simp[be]
def RK.isBox:RK->Bool
 |.box _=>true
 |_=>false
theorem tD (hV:ax V)(hT:TOk P T)(h:an P V W st a w)(a9:V.ro0=ro){fx:List Nat}:∀ (rs:List RK) (I:List ResultVar) (y:ct (ah rs)),jP st T fx rs I=some y ->
  ∀ {G:Nat->Prop},(∀ k,bi V W y.p y.frz k->G k) ->
  ∃ (us:List Value) (H:List (List Nat)) (bx:List Nat),ni P a w I us/\ge w G ro rs y.val us H/\(∀ k,H.flatten.count k=(aS W y.kill).count k+(bx.map W.β).count k) /\
   (∀ b∈bx,live st b/\fx.any (BC b)=false)/\bx.length=rs.countP RK.isBox/\(∀ z∈y.frz,aB st z)/\∀ z∈y.kill,aB st z
 |[],[],y,J,G,hG=>by
  simp only[jP,AT]at J;subst J;exact⟨[],[],[],rfl,⟨rfl,rfl⟩,λk=>by simp[aS],by simp,rfl,by simp,by simp⟩
 |[],_::_,_,J,_,_=>by simp[jP]at J
 |_::_,[],_,J,_,_=>by simp[jP]at J
 |r::rs,x::I,y,J,G,hG=>by
  simp only[jP]at J;cases O:decide (oZ st T x=r.sh) with
  |false=>simp[O]at J
  |true =>
   simp only[O,cond_true]at J;have O:=of_decide_eq_true O;split at J
   ·rename_i X y2 u b2;simp only[AT]at J;subst J;obtain⟨v,a2,ad,M,Y⟩:=AM hT h x (by rw[O];cases r <;> simp only[RK.sh] <;> first|exact zV _|simp);rw[O]at M;have a0:∀ k,bi V W X.p X.frz k->G k:=λk hk=>hG k (dA.1 k hk)
    have b3:∀ k,bi V W y2.p y2.frz k->G k:=λk hk=>hG k (dA.2 k hk)
    obtain⟨us,H,bx,i1,i2,i3,i4,i5,i6,i7⟩:=tD hV hT h a9 rs I y2 b2 b3;have a3:(nh a x).run P w=.ok v w:=by cases x <;> exact ad
    have a1:∀ (b:List Nat) (Z:List Nat),pH w G ro r X.val v b->(∀ k,b.count k=(aS W X.kill).count k+(Z.map W.β).count k)->(∀ b∈Z,live st b/\fx.any (BC b)=false)->Z.length=(if r.isBox then 1 else 0)->(∀ z∈X.frz,aB st z)->(∀ z∈X.kill,aB st z) ->
      ∃ (us:List Value) (H:List (List Nat)) (bx:List Nat),ni P a w (x::I) us/\ge w G ro (r::rs) (X.val,y2.val) us H/\(∀ k,H.flatten.count k=(aS W (X.kill++y2.kill)).count k+(bx.map W.β).count k) /\
       (∀ b∈bx,live st b/\fx.any (BC b)=false)/\bx.length=(r::rs).countP RK.isBox/\(∀ z∈X.frz++y2.frz,aB st z)/\∀ z∈X.kill++y2.kill,aB st z:=by
     intro b Z f1 f2 f3 f4 f5 f6;refine⟨v::us,b::H,Z++bx,⟨v,us,rfl,a3,i1⟩,⟨v,us,b,H,rfl,rfl,f1,i2⟩,λk=>?_,λz hz=>(AU.1 hz).elim (f3 z) (i4 z),?_,λz hz=>(AU.1 hz).elim (f5 z) (i6 z),λz hz=>(AU.1 hz).elim (f6 z) (i7 z)⟩
     ·rw[BJ,BN,f2 k,i3 k,du,BN,Bs,BN];omega
     ·rw[List.length_append,f4,i5,CU];cases r.isBox <;> simp <;> omega
    cases r with
    |v b =>
     simp only[rK]at u;obtain⟨g1,g2,g3⟩:=dw (pos:=0) h Y u;exact a1 (aS W X.kill) [] ⟨a2,gf M,g1.mono a0⟩ (λk=>by simp) (by simp) rfl g2 g3
    |bv b =>
     simp only[rK,BB]at u;obtain⟨⟨p,z⟩,hz,rfl⟩:=u;have g1:=ea h Y hz;refine a1 [] [] ⟨rfl,a2,gf M,g1.mono λk hk=>?_⟩ (λk=>by simp[aS]) (by simp) rfl (λz hz=>dU Y hz) (by simp);rcases hk with (hk|⟨_,hk⟩)|hk
     ·exact .inl (a0 k (.inl (.inl hk)))
     ·exact .inr (by rw[<- a9];exact hk)
     ·exact .inl (a0 k (.inr hk))
    |box b =>
     simp only[rK]at u;split at u
     ·rename_i b0 b4;cases a4:!(fx.any (BC b0)) with
      |false=>rw[a4]at u;cases u
      |true =>
       rw[a4]at u;simp only[cond_true]at u;have M:a2=[v]:=M;subst M;rw[b4]at Y;obtain⟨hB,b1,a5⟩:=Y.1.1;obtain⟨g1,g2,g3⟩:=dw (pos:=0) h (ia h b0) u;rcases h.boxes b0 hB with ⟨h8,_⟩|⟨_,E,h8⟩
       ·rw[b1]at h8;cases h8
       ·exact a1 (W.β b0::aS W X.kill) [b0] ⟨W.β b0,W.cs b0,E,_,a5,h8,g1.mono a0,rfl⟩ (λk=>by
         rw[Bt,BR,Cc,Bt,List.count_nil];omega) (λb' a6=>by
         simp at a6;subst a6;exact⟨⟨hB,b1⟩,by simpa using a4⟩) rfl g2 g3
     ·cases u
   ·cases J
theorem mj (hV:ax V)(h:an P V W st a w){w0:World}{pr:Nat->Prop}(a3:V.nt<=GH):∀ (ps:List PK) (x:ab ps) (vs:List Value) (a5:List (List Nat)) (t:Nat) (o:ct (ag ps)),cO P w0 ro pr ps x vs a5->gR st t ps=some o->t+ps.length<=V.nt ->
  (∀ z∈dO t ps vs,a.tmps.getD z.1 undef=z.2)->(∀ z∈dN t ps vs,live st z.1/\W.β z.1=z.2)->∀ {G:Nat->Prop},(∀ k,bi V W o.p o.frz k->G k) ->
  ∃ r,bF w G ps o.val vs r/\(∀ k,r.flatten.count k=(aS W o.kill).count k+((bA t ps).map W.β).count k)/\(∀ z∈o.frz,aB st z)/\(∀ z∈o.kill,aB st z)/\∀ b∈bA t ps,live st b
 |[],x,vs,a5,t,o,⟨e1,e2⟩,y,_,_,_,G,hG=>by
  simp only[gR,AT]at y;subst y;subst e1;exact⟨[],trivial,λk=>by simp[aS,bA],by simp,by simp,by simp[bA]⟩
 |pk::ps,x,vs,a5,t,o,⟨v,I,b,a0,e1,e2,h1,h2⟩,y,ht,a1,a2,G,hG=>by
  subst e1;subst e2;simp only[Bg]at ht;have u:∀ (o':ct (ag ps)),gR st (t+1) ps=some o'->dO t (pk::ps) (v::I)=dO (t+1) ps I->dN t (pk::ps) (v::I)=dN (t+1) ps I->(∀ k,bi V W o'.p o'.frz k->G k) ->
    ∃ r,bF w G ps o'.val I r/\(∀ k,r.flatten.count k=(aS W o'.kill).count k+((bA (t+1) ps).map W.β).count k)/\(∀ z∈o'.frz,aB st z)/\(∀ z∈o'.kill,aB st z)/\∀ b∈bA (t+1) ps,live st b:=by
   intro o' ad e1 e2 b1;exact mj hV h a3 ps x.2 I a0 (t+1) o' h2 ad (by omega) (λz H=>a1 z (by rw[e1];exact H)) (λz H=>a2 z (by rw[e2];exact H)) b1
  cases pk with
  |io b =>
   simp only[gR]at y;split at y
   ·rename_i y1 y2 Z a4;simp only[AT]at y;subst y;obtain⟨r,O,J,M,Y,X⟩:=mj hV h a3 ps x.2 I a0 (t+1) y2 h2 a4 (by omega) (λz H=>a1 z (AY _ H)) (λz H=>a2 z H) (λk hk=>hG k (dA.2 k hk));cases hb:decide ((ar st (.tmp t)).1=be b.isAgg) with
    |false=>rw[hb]at Z;cases Z
    |true =>
     rw[hb]at Z;simp only[cond_true]at Z;obtain⟨cs,h3,h4⟩:=cC h (.tmp t);rw[of_decide_eq_true hb]at h3;have hv:a.eval (.tmp t)=v:=a1 (t,v) (AZ ..);rw[hv]at h3;obtain⟨g1,g2,g3⟩:=dw (pos:=0) h h4 Z;refine⟨aS W y1.kill::r,⟨?_,O⟩,λk=>?_,λz H=>(AU.1 H).elim (g2 z) (M z),λz H=>(AU.1 H).elim (g3 z) (Y z),X⟩
     ·unfold ja;rw[if_neg (by simp)];exact⟨cs,gf h3,g1.mono (λk hk=>hG k (dA.1 k hk))⟩
     ·rw[BJ,BN,J k,du,BN];show _=_+((bA (t+1) ps).map W.β).count k;omega
   ·cases y
  |iop b =>
   simp only[gR]at y;split at y
   ·rename_i y1 y2 Z a4;simp only[AT]at y;subst y;obtain⟨r,O,J,M,Y,X⟩:=mj hV h a3 ps x.2 I a0 (t+1) y2 h2 a4 (by omega) (λz H=>a1 z (AY _ H)) (λz H=>a2 z (AY _ H)) (λk hk=>hG k (dA.2 k hk));obtain⟨g,c,E,b0,hv,_,_,_⟩:=h1;subst hv;obtain⟨a6,hβ⟩:=a2 (B0+t,tB (.pointer (some ⟨g,0,none⟩))) (AZ ..);have hβ:W.β (B0+t)=g:=hβ;obtain⟨g1,g2,g3⟩:=dw (pos:=0) h (ia h (B0+t)) Z;rcases h.boxes (B0+t) a6.1 with ⟨h8,_⟩|⟨_,E',h8⟩
    ·have:=a6.2;rw[h8]at this;cases this
    ·refine⟨(g::aS W y1.kill)::r,⟨?_,O⟩,λk=>?_,λz H=>(AU.1 H).elim (g2 z) (M z),λz H=>(AU.1 H).elim (g3 z) (Y z),λb' a9=>?_⟩
     ·unfold ja;rw[if_pos rfl];exact⟨g,W.cs (B0+t),E',_,rfl,by rw[<- hβ];exact h8,g1.mono (λk hk=>hG k (dA.1 k hk)),rfl⟩
     ·rw[BJ,BN,J k,du,BN,Bt];show _=_+(W.β (B0+t)::(bA (t+1) ps).map W.β).count k;rw[Bt,hβ];omega
     ·rcases BH.1 a9 with rfl|a9
      ·exact a6
      ·exact X b' a9
   ·cases y
  |rd b =>
   obtain⟨r,O,J,M,Y,X⟩:=u o y rfl rfl hG;exact⟨[]::r,⟨rfl,O⟩,λk=>by rw[BJ,BZ];exact J k,M,Y,X⟩
  |own b =>
   obtain⟨r,O,J,M,Y,X⟩:=u o y rfl rfl hG;exact⟨[]::r,⟨rfl,O⟩,λk=>by rw[BJ,BZ];exact J k,M,Y,X⟩
  |rref b =>
   obtain⟨r,O,J,M,Y,X⟩:=u o y rfl rfl hG;exact⟨[]::r,⟨rfl,O⟩,λk=>by rw[BJ,BZ];exact J k,M,Y,X⟩
  |rref2 b =>
   obtain⟨r,O,J,M,Y,X⟩:=u o y rfl rfl hG;exact⟨[]::r,⟨rfl,O⟩,λk=>by rw[BJ,BZ];exact J k,M,Y,X⟩
  |fn As B =>
   obtain⟨r,O,J,M,Y,X⟩:=u o y rfl rfl hG;exact⟨[]::r,⟨rfl,O⟩,λk=>by rw[BJ,BZ];exact J k,M,Y,X⟩
  |clo f cs =>
   obtain⟨r,O,J,M,Y,X⟩:=u o y rfl rfl hG;exact⟨[]::r,⟨rfl,O⟩,λk=>by rw[BJ,BZ];exact J k,M,Y,X⟩
  |hol b c off =>
   obtain⟨r,O,J,M,Y,X⟩:=u o y rfl rfl hG;exact⟨[]::r,⟨rfl,O⟩,λk=>by rw[BJ,BZ];exact J k,M,Y,X⟩
end
section
variable {P:Program} {Γ:List Ctr} {T:TypeId->TI} {w:World} {ro:Nat->Prop}
theorem ue {fn:Func}{a:Act}{w:World}{r:List Value}(h:ni P a w fn.results.toList r):(results fn a.tmps).run P w=.ok (if h:r.toArray.size=1 then r.toArray[0] else .tuple r.toArray) w:=by
 have z:=rq _ _ h;have e:results fn a.tmps=(fn.results.mapM (nh a) >>= λu=>pure (if h:u.size=1 then u[0] else .tuple u)):=by
  unfold results;congr 1
 have y:(fn.results.mapM (nh a)).run P w=.ok r.toArray w:=by
  rw[Array.mapM_eq_mapM_toList];simp[z]
 rw[e];simp only[Bo,y,Bi,CQ]
theorem AN (us:List Value):rS us (if h:us.toArray.size=1 then us.toArray[0] else .tuple us.toArray):=by
 match us with
 |[]=>rfl
 |[u]=>rfl
 |u::r::us =>
  rw[dif_neg (by simp)];rfl
theorem rr:∀ (ps:List PK) (t:Nat),(bA t ps).Nodup/\∀ b∈bA t ps,B0+t<=b
 |[],t=>⟨By,by simp[bA]⟩
 |I::ps,t=>by
  obtain⟨z,y⟩:=rr ps (t+1);have u:∀ b∈bA (t+1) ps,B0+t<=b:=λb r=>by have:=y b r;omega
  cases I with
  |iop a =>
   refine⟨Bb.2 ⟨λH=>?_,z⟩,λb r=>?_⟩
   ·have:=y _ H;omega
   ·rcases BH.1 r with rfl|r
    ·exact CD _
    ·exact u b r
  |_=>exact⟨z,u⟩
theorem AO {u:List RK}(h:pY u=true):u.countP RK.isBox<=1:=by
 unfold pY at h;split at h
 ·simp[RK.isBox]
 ·rw[CI.2]
  ·exact CW _
  ·intro r y;rw[BQ]at h;have:=h r y;cases r <;> simp[RK.isV,RK.isBox]at this ⊢
theorem ru {β:Nat->Nat}:∀ {bs:List Nat},bs.Nodup->(∀ b∈bs,∀ u∈bs,β b=β u->b=u)->(bs.map β).Nodup
 |[],_,_=>By
 |b::bs,z,H=>by
  rw[Bb]at z;rw[BR,Bb];refine⟨λM=>?_,ru z.2 (λx I y J=>H x (AY _ I) y (AY _ J))⟩;obtain⟨u,r,e⟩:=BE.1 M;have:=H u (AY _ r) b (AZ ..) e;exact z.1 (by rw[<- this];exact r)
theorem xw (hT:TOk P T){c:Ctr}(c2:pY c.rs=true){vs:List Value}{J:List (List Nat)}{fn:Func}{nt:Nat}(hV:ax (fR w ro c.ps vs J nt)){x:ab c.ps}{pr:Nat->Prop}(b3:cO P w ro pr c.ps x vs J)(c1:c.ps.length<=nt){ex:Ex}{s1:St}{y:ah c.rs×ag c.ps}
  (r:cS T c.ps c.rs c.fresh fn.results.toList ex s1=some y) {a:Act} {w':World} (u:Rel P (fR w ro c.ps vs J nt) s1 a w') :
  (ex=.normal\/ex=.ret)/\∃ v,(results fn a.tmps).run P w'=.ok v w'/\tc c w ro vs J y (.returned v) w':=by
 obtain⟨W,u⟩:=u;have bb:ex=.normal\/ex=.ret:=by
  cases ex with
  |normal=>exact .inl rfl
  |ret=>exact .inr rfl
  |exit id=>cases r
 refine⟨bb,?_⟩;have r:finR T c.ps c.rs c.fresh fn.results.toList s1=some y:=by
  rcases bb with rfl|rfl <;> exact r
 unfold finR at r;split at r
 ·rename_i O M c0 c5;cases Y:aU (O.kill++M.kill)&&dk (O.frz++M.frz) (O.kill++M.kill)&&(!c.fresh||!(O.p||M.p)) with
  |false=>rw[Y]at r;cases r
  |true =>
   rw[Y]at r;simp only[cond_true,AT]at r;subst r;simp only[AV]at Y;obtain⟨⟨b9,c4⟩,bl⟩:=Y;let N:Nat->Prop:=λk=>W.nw k\/∃ z∈O.frz++M.frz,k∈W.bs z.1 z.2
   have hG:∀ (p:Bool) (b1:List (Nat×Nat)),(p=true->(O.p||M.p)=true)->(∀ z∈b1,z∈O.frz++M.frz)->∀ k,bi (fR w ro c.ps vs J nt) W p b1 k->N k\/(c.fresh=false/\ro k):=by
    intro p b1 hp H k I;rcases I with (I|⟨hq,I⟩)|⟨z,Z,I⟩
    ·exact .inl (.inl I)
    ·refine .inr ⟨?_,I⟩;rw[hp hq]at bl;simpa using bl
    ·exact .inl (.inr ⟨z,H z Z,I⟩)
   obtain⟨us,b0,bx,r1,r2,r3,r4,r5,r6,r7⟩:=tD hV hT u rfl c.rs fn.results.toList O c0 (G:=λk=>N k\/(c.fresh=false/\ro k)) (hG O.p O.frz (by intro h;simp[h]) (λz H=>AW _ H));obtain⟨a6,o1,o2,o3,o4,o5⟩:=mj hV u hV.nt c.ps x vs J 0 M b3 c5 (by rw[Bk];exact c1) (λz H=>u.fixt z H) (λz H=>u.fixb z H) (G:=λk=>N k\/(c.fresh=false/\ro k)) (hG M.p M.frz (by intro h;simp[h]) (λz H=>AX _ H));have a0:∀ z∈O.kill++M.kill,aB s1 z:=λz H=>(AU.1 H).elim (r7 z) (o4 z)
   have a3:∀ z∈O.frz++M.frz,aB s1 z:=λz H=>(AU.1 H).elim (r6 z) (o3 z)
   have a4:∀ k,k<w'.heap.size->¬ (fR w ro c.ps vs J nt).prot k->pI w w' J.flatten k:=by
    intro k I hp;refine⟨I,?_⟩;by_cases bn:k<w.heap.size
    ·right;apply BV;intro hn;exact hp ⟨bn,hn⟩
    ·exact .inl (by omega)
   have c3:∀ k,N k->pI w w' J.flatten k:=by
    rintro k (I|⟨z,H,I⟩)
    ·exact a4 k (u.nwlt k I).1 (u.nwlt k I).2
    ·obtain⟨l,h7,h8⟩:=a3 z H;exact a4 k (u.own_lt h7 h8 k I) (u.ownb z.1 z.2 l h7 h8 k I).2.1
   have X:∀ b∈bx++bA 0 c.ps,live s1 b:=λb R=>(AU.1 R).elim (λR=>(r4 b R).1) (o5 b)
   have ba:(bx++bA 0 c.ps).Nodup:=by
    rw[Bh];refine⟨?_,(rr c.ps 0).1,λb R b' b2 e=>?_⟩
    ·have:=AO c2;rw[<- r5]at this
     match bx,this with
     |[],_=>exact By
     |[b],_=>simp
    ·subst e;have:=B3.1 (r4 b R).2 b b2;simp at this
   have a9:=ru (β:=W.β) ba (λb R b' b2 e=>u.inj b b' (X b R) (X b' b2) e);have a5:∀ k,(a6.flatten++b0.flatten).count k=(aS W (O.kill++M.kill)).count k+((bx++bA 0 c.ps).map W.β).count k:=λk=>by
    rw[BN,o2 k,r3 k,du,BN,Bs,BN];omega
   have c6:=bm.1 (gA u b9 a0);have ad:∀ k∈a6.flatten++b0.flatten,(∃ z∈O.kill++M.kill,k∈W.bs z.1 z.2)\/∃ b,live s1 b/\W.β b=k:=λk I=>by
    have h5:=BP.2 I;rw[a5 k]at h5;by_cases h6:k∈aS W (O.kill++M.kill)
    ·exact .inl (fV.1 h6)
    ·have:=Bz.2 h6;obtain⟨b,R,e⟩:=BE.1 (BP.1 (show 0<((bx++bA 0 c.ps).map W.β).count k by omega));exact .inr ⟨b,X b R,e⟩
   refine⟨_,ue r1,_,us,N,a6,b0,rfl,AN us,u.size,u.os,u.tape,u.output,λk h1 h2=>u.keep k ⟨h1,h2⟩,c3,o1,r2,bm.2 λk=>?_,λk I=>?_⟩
   ·rw[a5 k];have h5:=c6 k;have h6:=bm.1 a9 k;by_cases h7:k∈(bx++bA 0 c.ps).map W.β
    ·have:(aS W (O.kill++M.kill)).count k=0:=Bz.2 λhm=>by
      obtain⟨b,R,e⟩:=BE.1 h7;obtain⟨z,H,a1⟩:=fV.1 hm;obtain⟨l,hl,ho⟩:=a0 z H;exact (u.ownb z.1 z.2 l hl ho k a1).2.2 b (X b R) e
     omega
    ·have:=Bz.2 h7;omega
   ·rcases ad k I with ⟨z,H,a1⟩|⟨b,R,e⟩
    ·obtain⟨l,hl,ho⟩:=a0 z H;have h9:=u.ownb z.1 z.2 l hl ho k a1;refine⟨a4 k (u.own_lt hl ho k a1) h9.2.1,?_⟩;rintro (hn|⟨z',Z,a2⟩)
     ·exact h9.1 hn
     ·obtain⟨l',b5,b4⟩:=a3 z' Z;obtain⟨e1,e2⟩:=u.sep z.1 z.2 l z'.1 z'.2 l' hl ho b5 b4 k a1 a2;exact nl c4 z' Z (by rw[show z'=z from Prod.ext e1.symm e2.symm];exact H)
    ·subst e;have h9:=u.box b R;refine⟨a4 _ (u.box_lt R) h9.2,?_⟩;rintro (hn|⟨z',Z,a2⟩)
     ·exact h9.1 hn
     ·obtain⟨l',b5,b4⟩:=a3 z' Z;exact (u.ownb z'.1 z'.2 l' b5 b4 _ a2).2.2 b R rfl
 ·cases r
theorem jG:∀ {ps:List PK} {u:List Value} {t:Nat} {z:Nat×Value},z∈dO t ps u->z.1∈fU t ps
 |[],_,_,_,h=>by simp[dO]at h
 |r::ps,[],_,_,h=>by cases r <;> simp[dO]at h
 |r::ps,v::u,t,z,h=>by
  cases r <;> simp only[dO,fU,BH]at h ⊢ <;> first
   |exact jG h
   |exact h.imp (λe=>by rw[e]) jG
theorem jH:∀ {ps:List PK} {u:List Value} {t:Nat} {z:Nat×Nat},z∈dN t ps u->z.1∈bA t ps
 |[],_,_,_,h=>by simp[dN]at h
 |r::ps,[],_,_,h=>by cases r <;> simp[dN]at h
 |r::ps,v::u,t,z,h=>by
  cases r <;> simp only[dN,bA,BH]at h ⊢ <;> first
   |exact jH h
   |exact h.imp (λe=>by rw[e]) jH
theorem fC {f:FuncId}{fn:Func}{c:Code}(y:P.funcs[f]?=some fn)(z:(fn.name== "runtime.NumGoroutine")=false) (H:fn.body=some c):gv P f:=by
 intro u w;have r:fn.name≠ "runtime.NumGoroutine" := by simpa using z
 simp[callFunc,y,r,H]
theorem oU (hT:TOk P T)(hΓ:∀ c∈Γ,bT P c)(R:P.follows .mixedOrders=true){c:Ctr}{fn:Func}(hf:P.funcs[c.f]?=some fn)(hn:(fn.name== "runtime.NumGoroutine")=false)
  {L:List (Nat×List (Nat×List Coe))} {M:Nat} (X:fn.body.isSome=true) (O:∀ x,evF Γ T L M fn c.ps c.rs c.fresh x=c.den x):bT P c:=by
 obtain⟨H,X⟩:=Option.isSome_iff_exists.1 X;refine⟨fC hf hn X,λw ro x vs a1 y u a2 a5 J=>?_⟩;rw[<- O]at J;unfold evF at J;simp only[X]at J;cases r:dx fn.ntmps (fU 0 c.ps) H&&CF c.ps.length fn.ntmps&&CF fn.ntmps GH&&pY c.rs&&c8 L (bA 0 c.ps) H with
 |false=>simp[r]at J
 |true =>
  simp only[r,cond_true]at J;simp only[AV]at r;obtain⟨⟨⟨⟨h1,h2⟩,h3⟩,h4⟩,h5⟩:=r;have h2:=BW h2;have h3:=BW h3;have hV:ax (fR w ro c.ps vs a1 fn.ntmps):=⟨λk hk=>a2 k hk,h3⟩;have Y:=uO (P:=P) (ro:=ro) u a5 h2 h3;refine calls_of_wp hf X ?_;rw[CR];refine rU hV hT hΓ R (λz hz=>jH hz) (nt:=fn.ntmps) (fix:=fU 0 c.ps) rfl (λz hz=>jG hz) H h1 h5 _ _ y _ J (λex s1 a0 a' w' hr=>?_) _ _ Y;obtain⟨a4,v,Z,I⟩:=xw hT h4 hV u h2 a0 hr;have a3:a'.defers=[]:=by obtain⟨W,hr⟩:=hr;exact hr.df
  rcases a4 with rfl|rfl <;> exact⟨a3,v,Z,I⟩
end
section
variable {P:Program}
def szB (P:Program)(t:TypeId)(n:Nat):Bool :=
 match P.info? t with
 |some i=>BC i.size n
 |none=>false
theorem fE {t:TypeId}{n:Nat}(h:szB P t n=true):bJ P t n:=by
 unfold szB at h;unfold bJ;split at h
 ·rename_i i r;rw[r];simp only[BT];rw[BA h]
 ·cases h
def tE (P:Program)(t:TypeId)(agg:Bool):Bool :=
 match P.underlying t with
 |some (.struct _)|some (.array _ _)=>agg
 |some _=>!agg
 |none=>false
theorem qw {t:TypeId}{agg:Bool}(h:tE P t agg=true):(P.underlying t).map (λd=>match d with|.struct _|.array _ _=>true|_=>false)=some agg:=by
 unfold tE at h;split at h
 ·rename_i r;rw[r];simp[h]
 ·rename_i r;rw[r];simp[h]
 ·rename_i d y u r;rw[r];simp only[BT,AT];cases agg with
  |true=>cases h
  |false =>
   cases d <;> first|rfl|(exact absurd r (y _))|(exact absurd r (u _ _))
 ·cases h
theorem zW {t:TypeId}{agg:Bool}(h:(P.underlying t).map (λd=>match d with|.struct _|.array _ _=>true|_=>false)=some agg)(w:World):(isAgg t).run P w=.ok agg w:=by
 unfold isAgg;cases r:P.underlying t with
 |none=>simp[r]at h
 |some u =>
  rw[r]at h;simp only[BT,AT]at h;subst h;rw[Bo,run_underlying r w];cases u <;> rfl
def lv (P:Program)(f:Field)(off:Nat)(b:Ty):Bool:=(f.name != "_")&&BC f.offset off&&szB P f.type b.cells&&tE P f.type b.isAgg
def eqF (P:Program)(g:Ty->TypeId->Bool):List Field->Nat->Ty->Bool
 |[],_,_=>false
 |[f],off,b=>lv P f off b&&g b f.type
 |f::r,off,.pair b c=>lv P f off b&&g b f.type&&eqF P g r (off+b.cells) c
 |_,_,_=>false
def eqT (P:Program):Nat->Ty->TypeId->Bool
 |0,_,_=>false
 |n+1,a,t=>match a with
  |.int k=>(match P.underlying t with|some (.int k')=>decide (k'=k)|_=>false)
  |.bool=>(match P.underlying t with|some .bool=>true|_=>false)
  |.str=>(match P.underlying t with|some .string=>true|_=>false)
  |.pair b c=>(match P.underlying t with|some (.struct fs)=>!P.stoodInHeld t&&eqF P (eqT P n) fs.toList 0 (.pair b c)|_=>false)
  |_=>false
theorem yE:∀ (b:Ty),b.isAgg=false->b.cells=1
 |.int _,_=>rfl
 |.bool,_=>rfl
 |.str,_=>rfl
 |.list _ _ _,_=>rfl
 |.hdr,_=>rfl
 |.unit,h=>by cases h
 |.pair _ _,h=>by cases h
theorem ml {f:Field}{off:Nat}{b:Ty}(h:lv P f off b=true){xs p c s:List Value}(J:xs=p++c++s)(M:p.length=off)(z:c.length=b.cells)(w:World) :
  ∃ v,(part f.type xs.toArray f.offset).run P w=.ok v w/\cQ b.isAgg v c:=by
 unfold lv at h;simp only[AV]at h;obtain⟨⟨⟨_,y⟩,O⟩,X⟩:=h;have y:=BA y;have r:=zW (qw X) w;have H:=da (fE O) w;have u:(xs.drop off).take b.cells=c:=by
  rw[J,BX,<- M,List.drop_left,<- z,List.take_left]
 cases I:b.isAgg with
 |true =>
  rw[I]at r;refine⟨.agg c.toArray,?_,rfl⟩;have e:xs.toArray.extract off (off+b.cells)=c.toArray:=by
   rw[List.extract_toArray,List.extract_eq_take_drop,Nat.add_sub_cancel_left,u]
  simp only[part,Bo,r,Bi,if_true,H,CQ,y,e]
 |false =>
  rw[I]at r;have R:=yE b I;rw[R]at z
  match c,z with
  |[v],_ =>
   refine⟨v,?_,rfl⟩;have e:xs.toArray[off]?=some v:=by
    simp only[List.getElem?_toArray];rw[J,BX,BS (by omega)];simp[M]
   simp only[part,Bo,r,Bi,Bu,if_false,y,e,CQ]
def yV (P:Program)(d:Nat)(b:Ty)(t:TypeId):Prop:=∀ (w:World) (G:Nat->Prop) (x y:b.den) (H r:Value) (u z:List Value),cQ b.isAgg H u->Rd w G b x u->cQ b.isAgg r z->Rd w G b y z ->
 (Op.equalIn d t H r).run P w=.ok (b.eqv x y) w
theorem xx {d:Nat}{g:Ty->TypeId->Bool}(hg:∀ b t,g b t=true->yV P d b t):∀ (fs:List Field) (off:Nat) (b:Ty),eqF P g fs off b=true->∀ (w:World) (G:Nat->Prop) (x y:b.den) (z J u R:List Value),
  z.length=off->u.length=off->Rd w G b x J->Rd w G b y R->(Op.eqFields d (z++J).toArray (u++R).toArray fs).run P w=.ok (b.eqv x y) w
 |[],_,_,h=>by simp[eqF]at h
 |[f],off,b,h=>by
  intro w G x y z J u R r H Z hy;simp only[eqF,AV]at h;obtain⟨v1,h1,h2⟩:=ml h.1 (xs:=z++J) (p:=z) (c:=J) (s:=[]) (by simp) r Z.len w;obtain⟨v2,h3,h4⟩:=ml h.1 (xs:=u++R) (p:=u) (c:=R) (s:=[]) (by simp) H hy.len w;have h5:=hg b f.type h.2 w G x y v1 v2 J R h2 Z h4 hy;have hn:f.name≠ "_" := by
   have:=h.1;unfold lv at this;simp only[AV]at this;simpa using this.1.1.1
  simp only[Op.eqFields,if_pos hn,Bo,h1,h3,h5,Bi];cases b.eqv x y <;> simp
 |f::M::fs,off,.pair b c,h=>by
  intro w G x y z J u R r H Z hy;simp only[eqF,AV]at h;obtain⟨⟨Y,a2⟩,I⟩:=h;obtain⟨c1,c2,rfl,X,a0⟩:=Z;obtain⟨d1,d2,rfl,O,a1⟩:=hy;obtain⟨v1,h1,h2⟩:=ml Y (xs:=z++(c1++c2)) (p:=z) (c:=c1) (s:=c2) (by simp) r X.len w;obtain⟨v2,h3,h4⟩:=ml Y (xs:=u++(d1++d2)) (p:=u) (c:=d1) (s:=d2) (by simp) H O.len w;have h5:=hg b f.type a2 w G x.1 y.1 v1 v2 c1 d1 h2 X h4 O;have h6:=xx hg (M::fs) (off+b.cells) c I w G x.2 y.2 (z++c1) c2 (u++d1) d2 (by simp[r,X.len]) (by simp[H,O.len]) a0 a1;rw[BX,BX]at h6;have hn:f.name≠ "_" := by
   unfold lv at Y;simp only[AV]at Y;simpa using Y.1.1.1
  rw[Op.eqFields];simp only[if_pos hn,Bo,h1,h3,h5,Bi];show _=Result.ok (b.eqv x.1 y.1&&c.eqv x.2 y.2) w;cases b.eqv x.1 y.1 with
  |false=>simp
  |true=>simpa using h6
 |f::M::fs,off,.int _,h=>by simp[eqF]at h
 |f::M::fs,off,.bool,h=>by simp[eqF]at h
 |f::M::fs,off,.str,h=>by simp[eqF]at h
 |f::M::fs,off,.unit,h=>by simp[eqF]at h
 |f::M::fs,off,.list _ _ _,h=>by simp[eqF]at h
 |f::M::fs,off,.hdr,h=>by simp[eqF]at h
theorem rv (x y:ByteArray):(x==y)=decide (x=y):=by
 rw[beq_toListBytes];by_cases h:x=y
 ·subst h;simp
 ·rw[decide_eq_false h];cases r:(x.toList==y.toList) with
  |false=>rfl
  |true =>
   exfalso;apply h;have:=eq_of_beq r;rw[CJ,CJ]at this;apply ByteArray.ext;exact Array.ext' this
theorem xy:∀ (n:Nat) (a:Ty) (t:TypeId),eqT P n a t=true->∀ d,n<=d->yV P d a t
 |0,_,_,h=>by simp[eqT]at h
 |n+1,a,t,h=>by
  intro d hd;obtain⟨d,rfl⟩:∃ d',d=d'+1:=⟨d-1,by omega⟩;intro w G x y R O I J u z r H;cases a with
  |int k =>
   simp only[eqT]at h;split at h
   ·rename_i Y M;have hk:=of_decide_eq_true h;subst hk;have z:I=[.int Y x]:=z;have H:J=[.int Y y]:=H;have u:I=[R]:=u;have r:J=[O]:=r;rw[z]at u;rw[H]at r;simp at u r;subst u;subst r;simp[Op.equalIn,run_underlying M,Ty.eqv];rfl
   ·cases h
  |bool =>
   simp only[eqT]at h;split at h
   ·rename_i M;have z:I=[.bool x]:=z;have H:J=[.bool y]:=H;have u:I=[R]:=u;have r:J=[O]:=r;rw[z]at u;rw[H]at r;simp at u r;subst u;subst r;simp[Op.equalIn,run_underlying M,Ty.eqv]
   ·cases h
  |str =>
   simp only[eqT]at h;split at h
   ·rename_i M;have z:I=[.string x]:=z;have H:J=[.string y]:=H;have u:I=[R]:=u;have r:J=[O]:=r;rw[z]at u;rw[H]at r;simp at u r;subst u;subst r;have:=rv x y;simp[Op.equalIn,run_underlying M,Ty.eqv,this]
   ·cases h
  |pair b c =>
   simp only[eqT]at h;split at h
   ·rename_i X M;simp only[AV,Be]at h;have Z:P.fieldsOf t=X:=by simp[Program.fieldsOf,M]
    have u:R=.agg I.toArray:=u;have r:O=.agg J.toArray:=r;subst u;subst r;rw[run_equalIn_struct (P:=P) w d t _ _ (by rw[Z];exact M) h.1,Z];have:=xx (P:=P) (λb t hb=>xy n b t hb d (by omega)) X.toList 0 (.pair b c) h.2 w G x y [] I [] J rfl rfl z H;simpa using this
   ·cases h
  |unit=>simp[eqT]at h
  |hdr=>simp[eqT]at h
  |list m E e=>simp[eqT]at h
theorem zX {t:TypeId}{a:Ty}(h:eqT P 64 a t=true)(r:a.isAgg=true):EqAt P t a:=by
 intro _ w G x y u z H I;have:=xy 64 a t h Op.maxDepth (by decide) w G x y (.agg u.toArray) (.agg z.toArray) u z (by rw[r];rfl) H (by rw[r];rfl) I;exact this
def vW:Value->Value->Bool
 |.int k n,.int z u=>decide (k=z)&&decide (n=u)
 |.bool b,.bool y=>b==y
 |.string s,.string r=>decide (s.toList=r.toList)
 |.slice none 0 0,.slice none 0 0=>true
 |.pointer none,.pointer none=>true
 |.nilFunc,.nilFunc=>true
 |_,_=>false
def kD:List Value->List Value->Bool
 |[],[]=>true
 |v::y,u::r=>vW v u&&kD y r
 |_,_=>false
theorem yF {v u:Value}(h:vW v u=true):v=u:=by
 unfold vW at h;split at h
 ·simp only[AV,decide_eq_true_eq]at h;rw[h.1,h.2]
 ·rw[eq_of_beq h]
 ·rename_i s r;have:s=r:=by
   have y:=rv s r;rw[beq_toListBytes,of_decide_eq_true h]at y;simpa using y.symm
  rw[this]
 ·rfl
 ·rfl
 ·rfl
 ·cases h
theorem mm:∀ {r us:List Value},kD r us=true->r=us
 |[],[],_=>rfl
 |v::r,u::us,h=>by
  simp only[kD,AV]at h;rw[yF h.1,mm h.2]
 |[],_::_,h=>by simp[kD]at h
 |_::_,[],h=>by simp[kD]at h
def zB (P:Program)(t:TypeId)(agg:Bool)(cs:List Value):Bool :=
 match P.info? t with
 |some i=>match i.zero with
  |some (.agg r)=>agg&&kD r.toList cs
  |some v=>!agg&&kD [v] cs
  |none=>false
 |none=>false
theorem xz {t:TypeId}{cs:List Value}(h:zB P t true cs=true):dK P t (.agg cs.toArray):=by
 unfold zB at h;unfold dK;split at h
 ·rename_i i u;rw[u];split at h
  ·rename_i y r;simp only[CL]at h;rw[BT,r,<- mm h,Array.toArray_toList]
  ·cases h
  ·cases h
 ·cases h
theorem lw {t:TypeId}{v:Value}(h:zB P t false [v]=true):dK P t v:=by
 unfold zB at h;unfold dK;split at h
 ·rename_i i y;rw[y];split at h
  ·cases h
  ·rename_i u _ r;simp only[Cb,CL]at h;have:=mm h;simp only[B9,and_true]at this;rw[BT,r,this]
  ·cases h
 ·cases h
def jO (P:Program)(n:Nat):List Field->List (Nat×Nat×Bool)->Bool
 |[],[]=>true
 |f::r,(off,k,agg)::u=>BC f.offset off&&szB P f.type k&&tE P f.type agg&&B8 0 k&&CF (off+k) n&&(agg||BC k 1)&&jO P n r u
 |_,_=>false
def isU8:Ty->Bool
 |.int .u8=>true
 |_=>false
def u8B (P:Program)(E:TypeId):Bool :=
 match P.underlying E with
 |some (.int .u8)=>true
 |_=>false
def tiB (P:Program)(t:TypeId):TI->Bool
 |.int k=>(match P.underlying t with|some (.int k')=>decide (k'=k)|_=>false)&&szB P t 1&&zB P t false [.int k 0]
 |.bool=>(match P.underlying t with|some .bool=>true|_=>false)&&szB P t 1&&zB P t false [.bool false]
 |.str=>(match P.underlying t with|some .string=>true|_=>false)&&szB P t 1&&zB P t false [.string ByteArray.empty]
 |.slice E e r=>(match P.underlying t with|some (.slice E')=>BC E' E|_=>false)&&szB P t 1&&zB P t false [.slice none 0 0]&&B8 0 e.cells&&B8 0 r &&
  szB P E e.cells&&(match P.info? E with | some i=>BC i.bytes r&&(match i.zero with | some z=>kD z.cells.toList (zeroCells e) | none=>false) | none=>false)&&(!isU8 e||u8B P E)
 |.arr e n=>(match P.underlying t with|some (.array m E)=>BC m n&&szB P E e.cells&&tE P E e.isAgg|_=>false)&&B8 0 e.cells&&szB P t (n*e.cells)&&zB P t true (List.replicate n (zeroCells e)).flatten
 |.struct a u=>(match P.underlying t with | some (.struct y)=>jO P a.cells y.toList u | _=>false)&&szB P t a.cells&&zB P t true (zeroCells a)&&a.isAgg&&(!a.flat||eqT P 64 a t)&&!P.eqGuardType P.depth t
 |.ptr=>(match P.underlying t with|some (.pointer _)=>true|_=>false)&&szB P t 1&&zB P t false [.pointer none]
 |.fn=>(match P.underlying t with|some (.func _ _ _)=>true|_=>false)&&szB P t 1&&zB P t false [.nilFunc]
 |.none=>true
theorem pU {n:Nat}:∀ {fs:List Field} {xs:List (Nat×Nat×Bool)},jO P n fs xs=true ->
  fs.mapM (λf=>(P.info? f.type).map λi=>(f.offset,i.size))=some (xs.map λx=>(x.1,x.2.1)) /\
  ∀ (i off k:Nat) (agg:Bool),xs[i]?=some (off,k,agg)->(agg=false->k=1)/\∃ f:Field,fs[i]?=some f/\f.offset=off/\0<k/\off+k<=n/\bJ P f.type k /\
   (P.underlying f.type).map (λd=>match d with|.struct _|.array _ _=>true|_=>false)=some agg
 |[],[],_=>⟨rfl,λi off k agg h=>by simp at h⟩
 |[],_::_,h=>by simp[jO]at h
 |_::_,[],h=>by simp[jO]at h
 |f::fs,(off,k,agg)::xs,h=>by
  simp only[jO,AV,Br]at h;obtain⟨⟨⟨⟨⟨⟨H,M⟩,Z⟩,h4⟩,R⟩,u⟩,h7⟩:=h;have H:=BA H;have r:=fE M;obtain⟨h8,h9⟩:=pU h7;constructor
  ·unfold bJ at r;cases J:P.info? f.type with
   |none=>rw[J]at r;cases r
   |some i =>
    rw[J]at r;simp only[BT,AT]at r;simp[CE,J,h8,r,H]
  ·intro i z k' y I;cases i with
   |zero =>
    simp at I;obtain⟨rfl,rfl,rfl⟩:=I;refine⟨λha=>?_,f,rfl,H,by simpa[Bm]using h4,BW R,r,qw Z⟩;rcases u with u|u
    ·rw[ha]at u;cases u
    ·exact BA u
   |succ i =>
    obtain⟨X,Y,q2,O⟩:=h9 i z k' y (by simpa using I);exact⟨X,Y,by simpa using q2,O⟩
theorem AP {t:TypeId}{i:TI}(h:tiB P t i=true):ol P t i:=by
 cases i with
 |none=>trivial
 |int k =>
  simp only[tiB,AV]at h;obtain⟨⟨r,H⟩,I⟩:=h;split at r
  ·rename_i k' u;rw[of_decide_eq_true r]at u;exact⟨u,fE H,lw I⟩
  ·cases r
 |bool =>
  simp only[tiB,AV]at h;obtain⟨⟨r,H⟩,I⟩:=h;split at r
  ·rename_i u;exact⟨u,fE H,lw I⟩
  ·cases r
 |str =>
  simp only[tiB,AV]at h;obtain⟨⟨r,H⟩,I⟩:=h;split at r
  ·rename_i u;exact⟨u,fE H,lw I⟩
  ·cases r
 |ptr =>
  simp only[tiB,AV]at h;obtain⟨⟨r,H⟩,I⟩:=h;split at r
  ·rename_i e u;exact⟨⟨e,u⟩,fE H,lw I⟩
  ·cases r
 |fn =>
  simp only[tiB,AV]at h;obtain⟨⟨r,H⟩,I⟩:=h;split at r
  ·rename_i x y z u;exact⟨⟨x,y,z,u⟩,fE H,lw I⟩
  ·cases r
 |slice E e a1 =>
  simp only[tiB,AV]at h;obtain⟨⟨⟨⟨⟨⟨⟨r,H⟩,I⟩,Z⟩,M⟩,X⟩,R⟩,J⟩:=h;have a0:e=.int .u8->P.underlying E=some (.int .u8):=by
   intro he;subst he;have J:u8B P E=true:=by simpa[isU8]using J
   unfold u8B at J;split at J
   ·rename_i hq;exact hq
   ·cases J
  split at r
  ·rename_i E' u;rw[BA r]at u;split at R
   ·rename_i ti Y;simp only[AV]at R;obtain⟨h8,h9⟩:=R;split at h9
    ·rename_i z hz;have O:=fE X;unfold bJ at O;rw[Y]at O;simp only[BT,AT]at O;exact⟨u,fE H,lw I,by simpa[Bm]using Z,⟨by simpa[Bm]using M,a0⟩,ti,z,Y,O,BA h8,hz,mm h9⟩
    ·cases h9
   ·cases R
  ·cases r
 |arr e n =>
  simp only[tiB,AV]at h;obtain⟨⟨⟨r,H⟩,I⟩,Z⟩:=h;split at r
  ·rename_i m E u;simp only[AV]at r;obtain⟨⟨M,X⟩,R⟩:=r;rw[BA M]at u;exact⟨⟨E,u,fE X,qw R⟩,by simpa[Bm]using H,fE I,xz Z⟩
  ·cases r
 |struct a a2 =>
  simp only[tiB,AV,Br,Be]at h;obtain⟨⟨⟨⟨⟨r,H⟩,I⟩,Z⟩,M⟩,X⟩:=h;split at r
  ·rename_i fs u;obtain⟨R,h8⟩:=pU r;refine⟨⟨fs,u,R,λi off n agg hx=>?_⟩,fE H,xz I,?_,X⟩
   ·obtain⟨q1,f,q2,q3⟩:=h8 i off n agg hx;exact⟨q1,f,by simpa using q2,q3⟩
   ·intro hf;rcases M with M|M
    ·rw[hf]at M;cases M
    ·exact zX M Z hf
  ·cases r
def tlB (P:Program):List (TypeId×TI)->Bool
 |[]=>true
 |x::l=>tiB P x.1 x.2&&tlB P l
theorem gL:∀ {l:List (TypeId×TI)},tlB P l=true->TOk P (fK l):=by
 intro l h;refine sd ?_;induction l with
 |nil=>simp
 |cons x l u =>
  simp only[tlB,AV]at h;intro y r;rcases BH.1 r with rfl|r
  ·exact AP h.1
  ·exact u h.2 y r
end
section
variable {P:Program} {T:TypeId->TI}
theorem kE (hT:TOk P T)(M:P.follows .mixedOrders=true){f:FuncId}{fn:Func}(hf:P.funcs[f]?=some fn)(hn:(fn.name== "runtime.NumGoroutine")=false) {E:TypeId} {e:Ty} {rs:List RK} {r:Bool}
  {O:ab [PK.rd (.list false E e)]->Option (ah rs×ag [PK.rd (.list false E e)])} {R0 A B C:Code} {rid:Nat} {o0 o1:Oper} {d0 q t t':Nat} {x0:Operand} {L:List (Nat×List (Nat×List Coe))} {K:Nat}
  (hb:fn.body=some (.seq R0 (.seq (.seq (.region rid #[o0,o1] false) (.cond (.tmp q) A B)) C))) (b9:o0.guard=none) (d2:o0.op=.move x0) (bn:o1.op=.binOp .eql t (.tmp d0) (.const (.slice none 0 0)) t') (cp:o1.guard=none) (a9:o1.dst=some q)
  {E':TypeId} (ht:P.underlying t=some (.slice E'))
  (a5:(dx fn.ntmps [] (.seq R0 (.seq (.seq (.region rid #[o0,o1] false) (.cond (.tmp q) A B)) C))&&CF 1 fn.ntmps&&CF fn.ntmps GH&&pY rs&&c8 L [] (.seq R0 (.seq (.seq (.region rid #[o0,o1] false) (.cond (.tmp q) A B)) C)))=true)
  {S1:ab [PK.rd (.list false E e)]->St}
  (bl:∀ x,evK [] T L K R0 (av (cK 0 [PK.rd (.list false E e)] x)) (oj (λs _=>act [] T o0 s (λU=>some (ac U s))) (λ_ _=>none))=some (S1 x))
  (R:∀ x,one (S1 x) (.tmp d0)=.ro true E e x.1)
  (hF:∀ x,evK [] T L K (.seq (.cond (.tmp q) A B) C) (ac (bZ (S1 x) [] q .one [.bool false]) (S1 x)) (cS T [PK.rd (.list false E e)] rs r fn.results.toList)=O x)
  (c5:∀ x y,x.1=[]->O x=some y->evK [] T L K (.seq (.cond (.tmp q) A B) C) (ac (bZ (S1 x) [] q .one [.bool true]) (S1 x)) (cS T [PK.rd (.list false E e)] rs r fn.results.toList)=some y) :
  bT P ⟨f,[PK.rd (.list false E e)],rs,r,O⟩:=by
 refine⟨fC hf hn hb,λw ro x vs u y X c1 cw hy=>?_⟩;simp only[AV]at a5;obtain⟨⟨⟨⟨h1,h2⟩,h3⟩,h4⟩,h5⟩:=a5;have h2:=BW h2;have h3:=BW h3;have hV:ax (fR w ro [PK.rd (.list false E e)] vs u fn.ntmps):=⟨λk hk=>c1 k hk,h3⟩;have bx:=uO (P:=P) (ro:=ro) X cw h2 h3;have hnoΓ:∀ c∈([]:List Ctr),bT P c:=by simp
 have b0:∀ z∈(fR w ro [PK.rd (.list false E e)] vs u fn.ntmps).fixb,z.1∈([]:List Nat):=λz hz=>jH (ps:=[PK.rd (.list false E e)]) hz
 have Z:∀ z∈(fR w ro [PK.rd (.list false E e)] vs u fn.ntmps).fixt,z.1∈([]:List Nat):=λz hz=>jG (ps:=[PK.rd (.list false E e)]) hz
 simp only[dx,AV]at h1;simp only[c8,AV]at h5;obtain⟨c2,⟨ba,cc⟩,cb⟩:=h1;obtain⟨c4,⟨_,cy⟩,c6⟩:=h5;refine calls_of_wp hf hb ?_;rw[CR];generalize cx:bodyPost P fn (tc ⟨f,[PK.rd (.list false E e)],rs,r,O⟩ w ro vs u y)=Q;have hQ:∀ ex s1,cS T [PK.rd (.list false E e)] rs r fn.results.toList ex s1=some y->∀ a I,Rel P (fR w ro [PK.rd (.list false E e)] vs u fn.ntmps) s1 a I->Q (exOf ex) a I:=by
  intro ex s1 bb a' I J;obtain⟨cu,v,a0,a6⟩:=xw (c:=⟨f,[PK.rd (.list false E e)],rs,r,O⟩) hT h4 hV X h2 bb J;have c3:a'.defers=[]:=by obtain⟨W,J⟩:=J;exact J.df
  subst cx;rcases cu with rfl|rfl <;> exact⟨c3,v,a0,a6⟩
 have b1:∀ (b:Bool),evK [] T L K (.seq (.cond (.tmp q) A B) C) (ac (bZ (S1 x) [] q .one [.bool b]) (S1 x)) (cS T [PK.rd (.list false E e)] rs r fn.results.toList)=some y ->
   ∀ a I,Rel P (fR w ro [PK.rd (.list false E e)] vs u fn.ntmps) (ac (bZ (S1 x) [] q .one [.bool b]) (S1 x)) a I->(Code.cond (.tmp q) A B).wp P (Exit.then (C.wp P Q) Q) a I:=by
  intro b b2 a I J;refine rU hV hT hnoΓ M b0 (nt:=fn.ntmps) (fix:=[]) rfl Z (.cond (.tmp q) A B) (by simp only[dx,AV];exact cc) (by simp only[c8,AV];exact cy) _ _ y _ b2 (λex s1 H a I J=>?_) a I J;cases ex with
  |normal=>exact rU hV hT hnoΓ M b0 (nt:=fn.ntmps) (fix:=[]) rfl Z C cb c6 s1 _ y Q H hQ a I J
  |exit b3=>exact hQ (.exit b3) s1 H a I J
  |ret=>exact hQ .ret s1 H a I J
 have a3:∀ (i:Nat) (o:Oper),(#[o0,o1]:Array Oper)[i]?=some o->k9 fn.ntmps [] #[o0,o1] o=true:=λi o hi=>by
  simp only[BQ]at ba;exact ba o (by simpa using CB hi)
 refine wp_seq (rU hV hT hnoΓ M b0 (nt:=fn.ntmps) (fix:=[]) rfl Z R0 c2 c4 _ _ (S1 x) _ (bl x) (λex s0 H a I J=>?_) _ _ bx);cases ex with
 |exit b3=>cases H
 |ret=>cases H
 |normal =>
  have H:act [] T o0 s0 (λU=>some (ac U s0))=some (S1 x):=H;rw[tk]at H;obtain⟨U,hU,H⟩:=BY.1 H;simp only[AT]at H;refine wp_seq (wp_seq (wp_region ?_));have a2:Ca (#[o0,o1]:Array Oper).size=[0,1]:=rfl;rw[a2,wpOps_cons];refine vT hV hT hnoΓ (ops:=#[o0,o1]) (i:=0) (o:=o0) rfl (mh rfl Z (a3 0 o0 rfl)) (λj d3 hg=>by rw[b9]at hg;cases hg) (U:=U) (by unfold md;rw[b9];exact hU) J (λa1 w1 Y=>?_);rw[H]at Y;rw[wpOps_cons];obtain⟨W1,Y⟩:=Y;have a4:bH (fR w ro [PK.rd (.list false E e)] vs u fn.ntmps) o1:=mh rfl Z (a3 1 o1 rfl);obtain⟨h7,_,_,_,_⟩:=bk Y (.tmp d0) (by rw[R x];simp);rw[R x]at h7;obtain⟨A',b4,hv,_,d1⟩:=h7;have hv:a1.eval (.tmp d0)=.slice A' x.1.length b4:=by simpa using hv
  have b5:A'=none->x.1=[]:=λhA=>by
   cases hx:x.1 with
   |nil=>rfl
   |cons y ys =>
    obtain⟨g,o,c0,_⟩:=d1 (by rw[hx];simp);rw[hA]at c0;cases c0
  have b2:evK [] T L K (.seq (.cond (.tmp q) A B) C) (ac (bZ (S1 x) [] q .one [.bool A'.isNone]) (S1 x)) (cS T [PK.rd (.list false E e)] rs r fn.results.toList)=some y:=by
   cases hA:A' with
   |none=>exact c5 x y (b5 hA) hy
   |some ad=>exact (hF x).trans hy
  have a0:(execOp a1.eval o1).run P w1=.ok (.value (.bool A'.isNone)) w1:=by
   have:=Lib.run_eql_slice_nil (P:=P) w1 t E' A' x.1.length b4 0 0 ht;have hc:a1.eval (.const (.slice none 0 0))=.slice none 0 0:=rfl;simp[execOp,bn,hv,hc,eqGuard,this]
  unfold wpOp;have hi:(#[o0,o1]:Array Oper)[1]?=some o1:=rfl;simp only[hi];have hw:Region.wanted o1 (yielded #[o0,o1] a1.tmps)=true:=by simp[Region.wanted,cp]
  rw[if_pos hw];refine .inl (dH a0 ?_);rw[a9];show Exit.then _ _ _ _ _;exact b1 _ b2 _ _ (Y.putLs hV q (a4 q a9).1 (a4 q a9).2 _ .one [.bool A'.isNone] (.bool A'.isNone) [.bool A'.isNone] (Bj _) rfl ⟨⟨rfl,id,rfl⟩,trivial⟩)
end
open Go.ChangeShapes Go.WideShapes
section
variable {H:Type} {enc:TypeId×Value->H} {P:Program}
theorem mp (O:laidOutB P=true){W W':World}{J:Nat->Bool}:∀ {y:List TypeId} {z:List Value} {ds:List (DataW H)} {ps:List MemPlace},(∀ t∈y,P.readableRec t=true/\t<P.types.size) ->
  DataW.TrodAll enc P W 0 (λ_=>true) true y z ds ps->(∀ x∈ps,W.sameAt W' x)->(∀ x∈ps,J x.block=true)->DataW.TrodAll enc P W' 0 J true y z ds ps
 |[],[],[],_,_,h,_,_=>h
 |[],[],_::_,_,_,h,_,_=>h.elim
 |[],_::_,_,_,_,h,_,_=>h.elim
 |_::_,[],_,_,_,h,_,_=>h.elim
 |_::_,_::_,[],_,_,h,_,_=>h.elim
 |t::y,v::z,d::ds,ps,I,⟨p,q,Y,X,e⟩,M,u=>by
  subst e;refine⟨p,q,WideElems.Trod_stays O (I t (AZ ..)).1 (I t (AZ ..)).2 Y (λx r=>M x (AW _ r)) (λx r=>u x (AW _ r)),
   mp O (λR Z=>I R (AY _ Z)) X (λx r=>M x (AX _ r)) (λx r=>u x (AX _ r)),rfl⟩
theorem rG (hl:laidOutB P=true){f:Func}{s:ChangeSpec}{u a1 I R:Bool}{W W':World}{J:Array Value}{ds gs:List (DataW H)}{r:List MemPlace}
  (hW:DataW.Whole enc P f.params.toList s.vars u W J.toList ds gs r) (z:s.vars=[]) (hb:Below W.heap.size W W') (Y:∀ t∈f.params.toList,P.readableRec t=true/\t<P.types.size)
  {tb:TypeId} (X:f.resultTypes=#[tb]) (y:P.underlying tb=some .bool) (a2:(s.fn H (ds++gs)).results=[.lit (.bool true)]) (a0:(s.fn H (ds++gs)).args=ds) (a6:(s.fn H (ds++gs)).vars=[]) :
  s.post enc P f u a1 I R W J (.bool true) W':=by
 have O:∀ p∈r,p.block<W.heap.size:=λp hp=>by simpa using hW.lt p hp
 have a9:=hW;obtain⟨p,q,hA,hV,e,hz,hn⟩:=hW;rw[z]at hV;obtain⟨rfl,rfl⟩:=trodVars_none hV;simp only[List.append_nil]at e;subst e;have Z:∀ x∈r,W.sameAt W' x:=λx hx=>hb.same (O x hx)
 have a3:(Value.bool true).resultList f.resultTypes.size=[.bool true]:=by rw[X];rfl
 have hr:∀ (b:Nat) (M:Nat->Bool) (hd:Bool),DataW.TrodAll enc P W' b M hd f.resultTypes.toList ((Value.bool true).resultList f.resultTypes.size) (s.fn H (ds++[])).results []:=by
  intro b M hd;rw[a3,a2,X];exact trodAll_mk1 (shut_bool y true)
 have ha:∀ (M:Nat->Bool),(∀ x∈r,M x.block=true)->DataW.TrodAll enc P W' 0 M true f.params.toList J.toList (s.fn H (ds++[])).args r:=by
  intro M a5;rw[a0];exact mp hl Y hA Z a5
 have hv:∀ (M:Nat->Bool),DataW.TrodVars enc P W' M s.vars (s.fn H (ds++[])).vars []:=by
  intro M;rw[z,a6];rfl
 refine⟨ds,[],r,[],r,[],a9,hr _ _ _,ha _ (λx hx=>by simpa using O x hx),hv _,hb.frame _,λ_=>⟨ok_one X rfl (okWide_bool_mk y true),_,_,([]++r)++[],⟨[]++r,[],trodAll_append (ha _ (λ_ _=>rfl)) (hr _ _ _),hv _,rfl,?_,?_⟩,?_⟩⟩
 ·intro b off hp;have hp:MemPlace.cell b off∈r:=by simpa using hp
  rw[hb.frozen (p:=⟨b,off,none⟩) (O _ hp)];exact hz b off hp
 ·intro a4;have:=hn a4;simpa using this
 ·intro x hx _;simpa using hx
end
section
variable {H:Type} {enc:TypeId×Value->H} {P:Program} {w:World} {base:Nat} {spare:Nat->Bool} {held:Bool}
def shF (P:Program)(g:Ty->TypeId->Bool):List Field->Nat->Ty->Bool
 |[],_,_=>false
 |[f],off,b=>BC f.offset off&&BC (P.cellsOf f.type) b.cells&&g b f.type
 |f::r,off,.pair b c=>BC f.offset off&&BC (P.cellsOf f.type) b.cells&&g b f.type&&shF P g r (off+b.cells) c
 |_,_,_=>false
def shT (P:Program):Nat->Ty->TypeId->Bool
 |0,_,_=>false
 |n+1,a,t=>match a with
  |.int k=>(match P.underlying t with|some (.int k')=>decide (k'=k)|_=>false)
  |.bool=>(match P.underlying t with|some .bool=>true|_=>false)
  |.str=>(match P.underlying t with|some .string=>true|_=>false)
  |.pair b c=>(match P.underlying t with|some (.struct fs)=>shF P (shT P n) fs.toList 0 (.pair b c)&&BC (P.cellsOf t) (b.cells+c.cells)|_=>false)
  |.list _ E e=>(match P.underlying t with|some (.slice E')=>BC E' E&&BC (P.cellsOf E) e.cells&&B8 0 e.cells&&shT P n e E|_=>false)
  |.unit=>false
  |.hdr=>false
def Sm:(a:Ty)->a.den->Prop
 |.int k,n=>(Lit.int k n).wf=true
 |.pair a b,x=>Sm a x.1/\Sm b x.2
 |.list _ _ e,r=>r.length<=maxLen/\∀ x∈(r:List e.den),Sm e x
 |.bool,_=>True
 |.str,s=>s.size<=maxLen
 |.unit,_=>True
 |.hdr,_=>True
theorem kF {α β:Type}{f:α->Option β}:∀ (l:List α) (r:List β),l.mapM f=some r->r.length=l.length/\∀ (i:Nat) (x:α),l[i]?=some x->∃ y,f x=some y/\r[i]?=some y
 |[],r,h=>by
  simp at h;subst h;exact⟨rfl,λi x M=>by simp at M⟩
 |x::l,r,h=>by
  rw[CE]at h;cases z:f x with
  |none=>rw[z]at h;cases h
  |some y =>
   rw[z]at h;cases J:l.mapM f with
   |none=>rw[J]at h;cases h
   |some O =>
    rw[J]at h;cases h;obtain⟨X,R⟩:=kF l O J;refine⟨by simp[X],λi u I=>?_⟩;cases i with
    |zero=>simp at I;subst I;exact⟨y,z,rfl⟩
    |succ i=>simpa using R i u (by simpa using I)
theorem rx {a:Addr}{n:Nat}{cs:List Value}(h:w.cells? base a n=some cs):base<=a.block/\cs.length=n/\∀ i u,cs[i]?=some u->w.cell? (a.add i)=some u:=by
 unfold World.cells? at h;split at h
 ·rename_i R;obtain⟨z,M⟩:=kF _ _ h;refine⟨R,by simpa using z,λi u I=>?_⟩;have O:i<n:=by have:=(BD.1 I).1;rw[z]at this;simpa using this
  obtain⟨y,J,r⟩:=M i i (by simp[O]);rw[I]at r;cases r;exact J
 ·cases h
theorem oc {g:Ty->TypeId->Bool}{rd:TypeId->List Value->Option (DataW H×List MemPlace)}
  (R:∀ b t,g b t=true->∀ cs d,rd t cs=some d->∃ x:b.den,Rd w (λk=>k<w.heap.size) b x cs/\Sm b x) :
  ∀ (fs:List Field) (off:Nat) (b:Ty),shF P g fs off b=true->∀ (cs:List Value),cs.length=off+b.cells ->
   (∀ f∈fs,∃ d,rd f.type ((cs.drop f.offset).take (P.cellsOf f.type))=some d)->∃ x:b.den,Rd w (λk=>k<w.heap.size) b x (cs.drop off)/\Sm b x
 |[],_,_,h=>by simp[shF]at h
 |[f],off,b,h=>by
  intro cs z M;simp only[shF,AV]at h;obtain⟨⟨I,r⟩,O⟩:=h;have I:=BA I;have r:=BA r;obtain⟨d,J⟩:=M f (AZ ..);rw[I,r,List.take_of_length_le (by simp;omega)]at J;exact R b f.type O _ d J
 |f::u::fs,off,.pair b c,h=>by
  intro cs z M;simp only[shF,AV]at h;obtain⟨⟨⟨I,r⟩,O⟩,h4⟩:=h;have I:=BA I;have r:=BA r;have z:cs.length=off+(b.cells+c.cells):=z;obtain⟨d,J⟩:=M f (AZ ..);rw[I,r]at J;obtain⟨x,hx,Z⟩:=R b f.type O _ d J;obtain⟨y,hy,X⟩:=oc R (u::fs) (off+b.cells) c h4 cs (by omega) (λf0 Y=>M f0 (AY _ Y));refine⟨(x,y),⟨_,_,?_,hx,hy⟩,Z,X⟩;rw[<- CC,List.take_append_drop]
 |f::u::fs,off,.int _,h=>by simp[shF]at h
 |f::u::fs,off,.bool,h=>by simp[shF]at h
 |f::u::fs,off,.str,h=>by simp[shF]at h
 |f::u::fs,off,.unit,h=>by simp[shF]at h
 |f::u::fs,off,.list _ _ _,h=>by simp[shF]at h
 |f::u::fs,off,.hdr,h=>by simp[shF]at h
theorem od {β:Type}(Q:Nat->β->Prop):∀ (n:Nat),(∀ i,i<n->∃ x,Q i x)->∃ u:List β,u.length=n/\∀ i x,u[i]?=some x->Q i x
 |0,_=>⟨[],rfl,λi x h=>by simp at h⟩
 |n+1,h=>by
  obtain⟨u,I,M⟩:=od Q n (λi O=>h i (by omega));obtain⟨x,J⟩:=h n (by omega);refine⟨u++[x],by simp[I],λi y r=>?_⟩;by_cases O:i<n
  ·rw[BU (by omega)]at r;exact M i y r
  ·have z:i<(u++[x]).length:=(BD.1 r).1;have:i=n:=by simp at z;omega
   subst this;rw[BS (by omega),I,Nat.sub_self]at r;simp at r;subst r;exact J
theorem qx:∀ (n:Nat) (a:Ty) (t:TypeId),shT P n a t=true->∀ (I:Nat) (cs:List Value) (d:DataW H×List MemPlace),DataW.trod enc P w base spare held I t cs=some d ->
    ∃ x:a.den,Rd w (λk=>k<w.heap.size) a x cs/\Sm a x
  |0,_,_,h=>by simp[shT]at h
  |n+1,a,t,h=>by
    intro I cs d r;cases I with
    |zero=>simp[DataW.trod]at r
    |succ I =>
      cases a with
      |int k =>
        simp only[shT]at h;split at h
        · rename_i k' O
          have hk:=of_decide_eq_true h;subst hk;simp only[DataW.trod,O]at r;split at r <;> first|(rename_i M;cases M;done)|skip
          all_goals first
            | (rename_i k1 k2 m J
               cases J;split at r
               · rename_i hw
                 obtain⟨rfl,hw⟩:=hw;exact⟨m,rfl,hw⟩
               · cases r)
            |cases r
        · cases h
      |bool =>
        simp only[shT]at h;split at h
        · rename_i O
          simp only[DataW.trod,O]at r;split at r <;> first|(rename_i M;cases M;done)|skip
          all_goals first
            |(rename_i b J;exact⟨b,rfl,trivial⟩)
            |cases r
        · cases h
      |str =>
        simp only[shT]at h;split at h
        · rename_i O
          simp only[DataW.trod,O]at r;split at r <;> first|(rename_i M;cases M;done)|skip
          all_goals first
            | (rename_i b J
               split at r
               · rename_i hb
                 exact⟨b,rfl,hb⟩
               · cases r)
            |cases r
        · cases h
      |unit=>simp[shT]at h
      |hdr=>simp[shT]at h
      |pair b c =>
        simp only[shT]at h;split at h
        · rename_i fs O
          simp only[AV]at h;obtain⟨h1,h2⟩:=h;have h2:=BA h2;simp only[DataW.trod,O]at r;split at r
          · rename_i a2
            simp only[BB]at r;obtain⟨ys,b4,_⟩:=r;obtain⟨h3,h4⟩:=kF _ _ b4;have:=oc (w:=w) (rd:=DataW.trod enc P w base spare held I) (λb t hb cs d r=>qx n b t hb I cs d r) fs.toList 0 (.pair b c) h1 cs (by rw[a2,h2,Bk];rfl) (λf hf=>by
              obtain⟨i,hi,e⟩:=CK hf;obtain⟨y,h5,_⟩:=h4 i f (by rw[BK hi,e]);exact⟨y,h5⟩)
            simpa using this
          · cases r
        · cases h
      |list m E e =>
        simp only[shT]at h;split at h
        · rename_i E' O
          simp only[AV]at h;obtain⟨⟨⟨h1,h2⟩,h3⟩,h4⟩:=h;have h1:=BA h1;subst h1;have h2:=BA h2;have h3:0<e.cells:=by simpa[Bm]using h3
          simp only[DataW.trod,O]at r;split at r <;> first|(rename_i M;cases M;done)|skip
          all_goals first
            |cases r;done
            |skip
          · exact⟨[],Rd.nil w _ m _ e,CW _,by simp⟩
          · rename_i E2 R a3 b1 J
            cases J;split at r
            · rename_i hc
              obtain⟨b0,bb,b9⟩:=hc;obtain⟨ba,a4,_⟩:=BY.1 r;obtain⟨h5,h6⟩:=kF _ _ a4;have b5:∀ i,i<a3->∃ x:e.den,∃ c,w.cells? base (R.add (i*e.cells)) e.cells=some c/\Rd w (λk=>k<w.heap.size) e x c/\Sm e x:=by
                intro i hi;obtain⟨y,h7,_⟩:=h6 i i (by simp[hi]);obtain⟨c,h8,h9⟩:=BY.1 h7;rw[h2]at h8;obtain⟨x,hx,b2⟩:=qx n e _ h4 I c y h9;exact⟨x,c,h8,hx,b2⟩
              obtain⟨xs,b3,Z⟩:=od (λi (x:e.den)=>∃ c,w.cells? base (R.add (i*e.cells)) e.cells=some c/\Rd w (λk=>k<w.heap.size) e x c/\Sm e x) a3 b5;refine⟨xs,⟨some R,b1,by rw[b3],by omega,λhp=>?_⟩,by omega,λx hx=>?_⟩
              · have a9:0<xs.length:=hp
                obtain⟨c,a0,a6,_⟩:=Z 0 xs[0] (BK a9);obtain⟨_,bl,Y⟩:=rx a0;have h0:0<c.length:=by omega
                have z:=Y 0 c[0] (BK h0);have e0:(R.add (0*e.cells)).add 0=R:=by simp[Addr.add]
                rw[e0]at z;have X:R.spot=none/\R.block<w.heap.size:=by
                  unfold World.cell? at z;split at z
                  · rename_i hh
                    split at z
                    · cases z
                    · rename_i hs
                      refine⟨by simpa using hs,(Bw.1 hh).1⟩
                  · cases z
                obtain⟨g,o,sp⟩:=R;obtain⟨a1,a5⟩:=X;simp only at a1 a5;subst a1;refine⟨g,o,rfl,a5,λj x hj=>?_⟩;obtain⟨c,a0,a6,_⟩:=Z j x hj;obtain⟨_,_,Y⟩:=rx a0;refine⟨c,a6,λi u hi=>?_⟩;have:=Y i u hi
                rwa [eF,eF]at this
              · obtain⟨j,hj,e1⟩:=CK hx
                obtain⟨c,_,_,hs⟩:=Z j x (by rw[BK hj,e1]);exact hs
            · cases r
        · cases h
end
section
variable {H:Type} {enc:TypeId×Value->H} {P:Program} {w:World}
theorem yG {n:Nat}{a:Ty}{t:TypeId}(r:shT P (n+1) a t=true){v:Value}{d:DataW H}{p:List MemPlace}(M:DataW.Trod enc P w 0 (λ_=>true) true t v d p){base:Nat}(u:Cd P w .any base t v) :
  ∃ x:a.den,(∃ I,cQ a.isAgg v I/\Rd w (λk=>k<w.heap.size) a x I)/\Sm a x:=by
 obtain⟨z,M⟩:=M;obtain⟨x,X,J⟩:=qx (n+1) a t r z _ _ M;refine⟨x,⟨v.cells.toList,?_,X⟩,J⟩;cases a with
 |int k =>
  simp only[shT]at r;split at r
  ·rename_i Z y;obtain⟨n,rfl⟩:=okWide_int y u;rfl
  ·cases r
 |bool =>
  simp only[shT]at r;split at r
  ·rename_i y;obtain⟨n,rfl⟩:=okWide_bool y u;rfl
  ·cases r
 |str =>
  simp only[shT]at r;split at r
  ·rename_i y;obtain⟨n,rfl⟩:=okWide_string y u;rfl
  ·cases r
 |list m E e =>
  simp only[shT]at r;split at r
  ·rename_i E' y;obtain⟨A,R,O,rfl⟩:=okWide_slice y u;rfl
  ·cases r
 |unit=>simp[shT]at r
 |hdr=>simp[shT]at r
 |pair b c =>
  simp only[shT]at r;split at r
  ·rename_i Y y;obtain⟨I,rfl,_⟩:=okWide_struct y u;show Value.agg I=.agg (Value.agg I).cells.toList.toArray;simp[Value.cells]
  ·cases r
def Sms:(as:List Ty)->ab (as.map .rd)->Prop
 |[],_=>True
 |a::as,x=>Sm a x.1/\Sms as x.2
def tF (P:Program):List Ty->List TypeId->Bool
 |[],[]=>true
 |a::as,t::r=>shT P 64 a t&&tF P as r
 |_,_=>false
theorem rz {pr:Nat->Prop}:∀ (as:List Ty) (I:List TypeId) (u:List Value) (ds:List (DataW H)) (ps:List MemPlace),tF P as I=true->DataW.TrodAll enc P w 0 (λ_=>true) true I u ds ps ->
  (∃ r,∀ (j:Nat) (t:TypeId) (v:Value),I[j]?=some t->u[j]?=some v->Cd P w .any r t v)->∃ x:ab (as.map .rd),cO P w (λk=>k<w.heap.size) pr (as.map .rd) x u (as.map λ_=>[])/\Sms as x
 |[],[],[],[],_,_,_,_=>⟨(),⟨rfl,rfl⟩,trivial⟩
 |[],[],[],_::_,_,_,h,_=>h.elim
 |[],[],_::_,_,_,_,h,_=>h.elim
 |[],_::_,_,_,_,h,_,_=>by simp[tF]at h
 |_::_,[],_,_,_,h,_,_=>by simp[tF]at h
 |_::_,_::_,[],_,_,_,h,_=>h.elim
 |_::_,_::_,_::_,[],_,_,h,_=>h.elim
 |a::as,t::I,v::u,d::ds,ps,J,⟨p,q,Z,X,_⟩,⟨r,z⟩=>by
  simp only[tF,AV]at J;obtain⟨x,hx,O⟩:=yG (n:=63) J.1 Z (z 0 t v rfl rfl);obtain⟨y,hy,M⟩:=rz as I u ds q J.2 X ⟨r,λj R v' Y h4=>z (j+1) R v' (by simpa using Y) (by simpa using h4)⟩;exact⟨(x,y),⟨v,u,[],_,rfl,rfl,⟨rfl,hx⟩,hy⟩,O,M⟩
theorem yH (tys:List Ty):(tys.map λ_=>([]:List Nat)).flatten=[]:=by
 induction tys with
 |nil=>rfl
 |cons a tys r=>simp
theorem xA {f:FuncId}{tys:List Ty}{z:Bool}{I:ab (tys.map PK.rd)->Option (ah [.v .bool]×ag (tys.map PK.rd))}(hs:bT P ⟨f,tys.map .rd,[.v .bool],z,I⟩){x:ab (tys.map .rd)}{vs:List Value}{o:ag (tys.map .rd)}
  (hx:cO P w (λk=>k<w.heap.size) (λk=>k<w.heap.size) (tys.map .rd) x vs (tys.map λ_=>[])) (hd:I x=some ((true,()),o)):Calls P f vs.toArray w (λe w'=>e=.returned (.bool true)/\Below w.heap.size w w'):=by
 have R:=yH tys;have:=hs.2 w (λk=>k<w.heap.size) x vs _ _ (hx.mono (λ_ h=>h) (λk M=>⟨M,by rw[R];simp⟩)) (λk M=>⟨M,by rw[R];simp⟩) (by rw[R];exact By) hd;refine this.mono λe w' hp=>?_
 obtain⟨v,us,N,a3,a4,rfl,r,Z,X,a1,a0,Y,_,_,J,_,_⟩:=hp;refine⟨?_,⟨X,a1,a0,Z,λk M=>Y k M (by rw[R];simp)⟩⟩;obtain⟨u,a5,b,a2,e1,e2,⟨cs,y,O⟩,e3,e4⟩:=J;subst e3;subst e1;have r:v=u:=r;subst r;have y:cs=[v]:=y;have O:cs=[.bool true]:=O.1;rw[y]at O;simp only[B9,and_true]at O;rw[O]
end
end Go.Proofs.YtaegajachoklkaaGreatEv
