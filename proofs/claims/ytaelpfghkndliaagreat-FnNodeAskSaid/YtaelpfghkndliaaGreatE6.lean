/- One operation looks at some slots alone. -/
import Derived.Test.YtaelpfghkndliaaGreatE3
import Derived.Laws.StructEq
import Derived.Lib.SliceRun
import Derived.ProofKit
set_option linter.unusedVariables false
set_option linter.unusedSimpArgs false
open Array renaming getElem?_eq_getElem->BM,getD_eq_getD_getElem?->BN,replicate->B3,all_eq_true_iff_forall_mem->CE,getElem?_eq_some_iff->CN,getElem?_append_left->CO,getElem?_replicate->CU,mem_of_getElem?->CZ,length_toList->Cf,mem_append->Cr
open Bool renaming and_eq_true->BC,not_eq_true'->B5,or_eq_true->CI,false_eq_true->CL,and_false->CM,and_true->CT,true_and->Cj,not_false->Cz
open Classical renaming byContradiction->Bt
open Go.ByteArray renaming toList_eq->Ch
open Go.Result renaming andThen_ok->B9
open Go.Sem renaming run_bind->CF,run_pure->Co
open Go.Value renaming okWide->C3
open List renaming mem_append->BB,mem_append_left->BD,mem_append_right->BE,mem_cons_of_mem->BF,mem_cons_self->BG,getElem?_eq_some_iff->BK,mem_map->BL,mem_cons->BO,getD_eq_getElem?_getD->BP,flatten_cons->BQ,getElem?_eq_getElem->BR,mem_flatMap->BT,count_append->BU,mem_singleton_self->BV,count_pos_iff->BW,all_eq_true->BX,map_cons->BY,getElem?_append_right->BZ,getElem?_append_left->Bs,append_assoc->Bv,nil_append->Bx,mem_singleton->By,nodup_cons->Bz,length_cons->B7,nodup_append->B8,mem_filter->CC,any_eq_true->CH,map_append->CJ,count_cons->CK,nodup_nil->CP,count_eq_zero->CQ,any_eq_false->CR,all_cons->CS,getElem?_cons_succ->CV,getElem?_eq_none->CY,drop_drop->Ca,mapM_cons->Cc,map_congr_left->Ce,countP_eq_zero->Cg,getElem_of_mem->Ci,set_cons_succ->Ck,find?_eq_none->Cm,getElem?_map->Cn,size_toArray->Cp,mem_toArray->Cq,countP_cons->Cs,foldl_cons->Cw,range->Cy,map_nil->C0
open List.cons renaming injEq->CX
open Nat renaming eq_of_beq_eq_true->BH,beq->BJ,le_of_ble_eq_true->Bu,lt_succ_self->CA,zero_add->CB,blt_eq->CD,blt->CW,le_refl->Cb,ble->Cd,lt_of_lt_of_le->Cl,zero_le->Cu,strongRecOn->Cx
open Option renaming map_eq_some_iff->BI,map_some->Br,bind_eq_some_iff->Bw,bind_assoc->B4,bind_some->B6,bind_none->CG,getD_some->Ct
open Option.some renaming injEq->BA,inj->Cv
open Prod.mk renaming injEq->BS
namespace Go.Proofs.YtaelpfghkndliaaGreatEv
open Go Go.RowKit
section
variable {P:Program} {V:Env} {Γ:List Ctr} {T:TypeId->TI} {st st':St} {o:Oper} {R:Type} {κ:Upd->Option R} {r:R}
theorem gC {α β:Type}(b:Bool)(x y:Option α)(f:α->Option β):(bif b then x else y).bind f=bif b then x.bind f else y.bind f:=by cases b <;> rfl
theorem wh {b:Option (Bool×Nat×Nat)}{U:Upd}:jN st b U κ=(jN st b U some).bind κ:=by
 unfold jN;split
 ·split
  ·simp only[B4];congr 1;funext y;split <;> rfl
  ·rfl
 ·rfl
theorem wj {d:Nat}{f:FuncId}{xs:List (aI×List Leaf)}:jk Γ st d f xs κ=(jk Γ st d f xs some).bind κ:=by
 unfold jk;cases lH Γ f with
 |none=>rfl
 |some c =>
  simp only[gB,B4];congr 1;funext u;cases oH Γ (ae u.1 st) c.ps u.2.1 with
  |none=>rfl
  |some g =>
   simp only[gC,B4,CG];congr 2;funext y;exact wh
theorem mB {z:St}{H:Upd}{d:Nat}{E:TypeId}{e:Ty}{u:Nat}{p:Bool}{xs:List e.den}{ks:List (Nat×Nat)}{y:Leaf}:dU st z H d E e u p xs ks y κ=(dU st z H d E e u p xs ks y some).bind κ:=by
 unfold dU;split
 ·simp only[gC,CG,B6]
 ·rfl
theorem tz {z:Upd}{d:Nat}{E:TypeId}{e:Ty}{u:Nat}{x y:Leaf}:eq st z d E e u x y κ=(eq st z d E e u x y some).bind κ:=by
 unfold eq;split
 ·split
  ·rw[gC,<- mB];rfl
  ·rfl
 ·exact mB
 ·rfl
theorem tA {d:Nat}{E:TypeId}{e:Ty}{u:Nat}{x y:Leaf}:iy st d E e u x y κ=(iy st d E e u x y some).bind κ:=by
 unfold iy;simp only[hH,gC,B4,<- tz]
theorem nj {r j i off n:Nat}{p:Bool}{E:TypeId}{e:Ty}{xs:List e.den}{h:Option (Nat×Nat)}{ls:List Leaf}:gH st r j i off n p E e xs h ls κ=(gH st r j i off n p E e xs h ls some).bind κ:=by
 unfold gH;simp only[B4];congr 1;funext u;split
 ·rw[gC];congr 1;split
  ·rfl
  ·simp only[gC,B6,CG]
 ·rfl
theorem tB:act Γ T o st κ=(act Γ T o st some).bind κ:=by
 cases u:o.op <;> simp only[act,wrU,u] <;> (repeat' split) <;>
  (try simp only[gC,B4,CG,B6]) <;> (try rfl) <;> (try exact wj) <;> (try (rw[tA];done)) <;> (try (rw[nj];done)) <;> (try (rw[<- nj];done))
theorem bi {q:Nat}(h:st' q=st q):∀ (U:Upd),ae U st' q=ae U st q
 |[]=>h
 |(r,c)::U=>by simp only[ae,bi h U]
theorem dS {x:Operand}(h:∀ t,x=.tmp t->st' t=st t):av st' x=av st x:=by
 cases x with
 |tmp t=>simp only[av,h t rfl]
 |_=>rfl
theorem dE {x:Operand}(h:∀ t,x=.tmp t->st' t=st t):one st' x=one st x:=by
 unfold one;rw[dS h]
theorem k8:∀ (y u:List Leaf),ax (y++u)=ax y++ax u
 |[],_=>rfl
 |l::y,u=>by cases l <;> simp[ax,k8 y u]
theorem aL (l:Leaf)(ls:List Leaf):ax (l::ls)=ax [l]++ax ls:=k8 [l] ls
theorem fC:∀ (n:Nat) (ls:List Leaf) (q:Nat),q∈ax (ls.drop n)->q∈ax ls
 |0,_,_,h=>h
 |n+1,[],_,h=>h
 |n+1,l::ls,q,h=>by rw[aL];exact BE _ (fC n ls q h)
theorem rx:∀ (n:Nat) (ls:List Leaf) (q:Nat),q∈ax (ls.take n)->q∈ax ls
 |0,_,_,h=>by simp[ax]at h
 |n+1,[],_,h=>by simp[ax]at h
 |n+1,l::ls,q,h=>by
  rw[List.take_succ_cons,aL,BB]at h;rw[aL,BB];exact h.imp id (rx n ls q)
theorem qG:∀ {ls:List Leaf} {k:Nat} {l:Leaf},ls[k]?=some l->∀ q∈ax [l],q∈ax ls
 |[],_,_,h,_,_=>by simp at h
 |y::ls,0,l,h,q,u=>by simp at h;subst h;rw[aL];exact BD _ u
 |y::ls,k+1,l,h,q,u=>by rw[aL];exact BE _ (qG (by simpa using h) q u)
theorem jB {ks:List (Nat×Nat×Nat)}{ep:Nat}(h:∀ q∈EPO::ks.map (·.1),st' q=st q):bk st' ks ep=bk st ks ep:=by
 unfold bk;rw[h EPO (BG ..)];congr 1;induction ks with
 |nil=>rfl
 |cons k ks y =>
  rw[CS,CS,y (λq u=>h q (by simp at u ⊢;rcases u with u|u;exact .inl u;exact .inr (.inr u))),h k.1 (by simp)]
theorem it {p:Bool}{ks:List (Nat×Nat×Nat)}{ep:Nat}{u:Option (Nat×Nat×Nat)}{E:TypeId}{e:Ty}{xs:List e.den}:ax [.nal p ks ep u E e xs]=EPO::ks.map (·.1):=by simp[ax]
theorem u6 {p:Bool}{ks:List (Nat×Nat×Nat)}{ep:Nat}{a:Ty}{x:a.den}{off:Nat}:ax [.np p ks ep a x off]=EPO::ks.map (·.1):=by simp[ax]
theorem ck {l:Leaf}(h:∀ q∈ax [l],st' q=st q):aE st' l=aE st l:=by
 cases l with
 |al r j v=>simp only[aE,h r (by simp[ax])]
 |nal p y ep u E e z=>rw[it]at h;simp only[aE,jB h]
 |_=>rfl
theorem jL:∀ (a:Ty) (ls:List Leaf) (p:Bool) (x:a.den) (u:List Leaf),a7 st a ls=some (p,x,u)->∃ I,ls=I++u
 |.int k,ls,p,x,u,h=>by
  simp only[a7]at h;split at h
  ·split at h
   ·simp at h;exact⟨[_],by rw[<- h.2.2];rfl⟩
   ·cases h
  ·cases h
 |.bool,ls,p,x,u,h=>by
  simp only[a7]at h;split at h
  ·simp at h;exact⟨[_],by rw[<- h.2.2];rfl⟩
  ·cases h
 |.str,ls,p,x,u,h=>by
  simp only[a7]at h;split at h
  ·simp at h;exact⟨[_],by rw[<- h.2.2];rfl⟩
  ·cases h
 |.unit,ls,p,x,u,h=>by
  simp only[a7,BA,BS]at h;exact⟨[],by rw[h.2.2];rfl⟩
 |.hdr,ls,p,x,u,h=>by
  simp only[a7]at h;split at h
  ·split at h
   ·simp at h;exact⟨[_],by rw[<- h.2.2];rfl⟩
   ·cases h
  ·cases h
 |.pair a b,ls,p,x,u,h=>by
  simp only[a7]at h;split at h
  ·rename_i q y H Y;split at h
   ·rename_i Z z J O;simp at h;obtain⟨I,e1⟩:=jL a ls q y H Y;obtain⟨M,X⟩:=jL b H Z z J O;exact⟨I++M,by rw[e1,X,h.2.2,Bv]⟩
   ·cases h
  ·cases h
 |.list m E e,ls,p,x,u,h=>by
  simp only[a7]at h;split at h
  ·split at h
   ·simp at h;exact⟨[_],by rw[<- h.2.2];rfl⟩
   ·cases h
  ·cases h
theorem gD:∀ (a:Ty) (ls:List Leaf),(∀ q∈ax ls,st' q=st q)->a7 st' a ls=a7 st a ls
 |.int k,ls,h=>rfl
 |.bool,ls,h=>rfl
 |.str,ls,h=>rfl
 |.unit,ls,h=>rfl
 |.hdr,ls,h=>by
  cases ls with
  |nil=>rfl
  |cons l ls =>
   simp only[a7];rw[ck (l:=l) (λq u=>h q (by rw[aL];exact BD _ u))]
 |.pair a b,ls,h=>by
  simp only[a7,gD a ls h];cases I:a7 st a ls with
  |none=>rfl
  |some x =>
   obtain⟨p,y,z⟩:=x;obtain⟨J,H⟩:=jL a ls p y z I;simp only;rw[gD b z (λq u=>h q (by rw[H,k8];exact BE _ u))]
 |.list m E e,ls,h=>by
  cases ls with
  |nil=>rfl
  |cons l ls =>
   simp only[a7];rw[ck (l:=l) (λq u=>h q (by rw[aL];exact BD _ u))]
theorem eD {a:Ty}{ls:List Leaf}(h:∀ q∈ax ls,st' q=st q):cP st' a ls=cP st a ls:=by
 unfold cP;rw[gD a ls h]
theorem nk {e:Ty}:∀ (n:Nat) (ls:List Leaf),(∀ q∈ax ls,st' q=st q)->fy st' e n ls=fy st e n ls
 |0,_,_=>rfl
 |n+1,ls,h=>by
  simp only[fy,eD (ls:=ls.take e.cells) (λq u=>h q (rx _ _ q u)),nk n (ls.drop e.cells) (λq u=>h q (fC _ _ q u))]
theorem jd:∀ {ls:List Leaf},(∀ q∈ax ls,st' q=st q)->bu st' ls=bu st ls
 |[],_=>rfl
 |l::ls,h=>by
  have y:=jd (ls:=ls) (λq u=>h q (by rw[aL];exact BE _ u));cases l with
  |al r j v=>simp only[bu,y,ck (l:=.al r j v) (λq u=>h q (by rw[aL];exact BD _ u))]
  |nal p H ep z E e I=>simp only[bu,y,ck (l:=.nal p H ep z E e I) (λq u=>h q (by rw[aL];exact BD _ u))]
  |_=>simpa[bu]using y
theorem o8:∀ {ls:List Leaf},(∀ q∈ax ls,st' q=st q)->b8 st' ls=b8 st ls
 |[],_=>rfl
 |l::ls,h=>by
  have y:=o8 (ls:=ls) (λq u=>h q (by rw[aL];exact BE _ u));cases l with
  |al r j v=>simp only[b8,y,ck (l:=.al r j v) (λq u=>h q (by rw[aL];exact BD _ u))]
  |_=>simpa[b8]using y
theorem qH:∀ {ls:List Leaf},(∀ q∈ax ls,st' q=st q)->dy st' ls=dy st ls
 |[],_=>rfl
 |l::ls,h=>by
  have u:=qH (ls:=ls) (λq y=>h q (by rw[aL];exact BE _ y));cases l with
  |nal p H ep z E e I =>
   cases z with
   |none=>simp only[dy,u,ck (l:=.nal p H ep none E e I) (λq y=>h q (by rw[aL];exact BD _ y))]
   |some x=>simpa[dy]using u
  |_=>simpa[dy]using u
theorem o9 {ls:List Leaf}(h:∀ q∈ax ls,st' q=st q):dH st' ls=dH st ls:=by
 unfold dH;induction ls with
 |nil=>rfl
 |cons l ls y =>
  rw[BY,BY,y (λq u=>h q (by rw[aL];exact BE _ u))];unfold gh;rw[ck (λq u=>h q (by rw[aL];exact BD _ u))]
theorem ew:∀ {ls:List Leaf} {x:Nat×Nat},x∈bu st ls->x.1∈ax ls
 |[],_,h=>by simp[bu]at h
 |l::ls,x,h=>by
  cases l with
  |al r j v =>
   simp only[bu,BB]at h;rcases h with h|h
   ·split at h
    ·simp at h;subst h;simp[ax]
    ·simp at h
   ·rw[aL];exact BE _ (ew h)
  |nal p z ep y E e H =>
   simp only[bu,BB]at h;rcases h with h|h
   ·split at h
    ·obtain⟨k,u,rfl⟩:=BL.1 h;rw[aL,it];exact BD _ (BF _ (BL.2 ⟨k,u,rfl⟩))
    ·simp at h
   ·rw[aL];exact BE _ (ew h)
  |_=>(simp only[bu]at h;rw[aL];exact BE _ (ew h))
theorem je:∀ {ls:List Leaf} {x:Nat×Nat},x∈b8 st ls->x.1∈ax ls
 |[],_,h=>by simp[b8]at h
 |l::ls,x,h=>by
  cases l with
  |al r j v =>
   simp only[b8,BB]at h;rcases h with h|h
   ·split at h
    ·simp at h;subst h;simp[ax]
    ·simp at h
   ·rw[aL];exact BE _ (je h)
  |_=>(simp only[b8]at h;rw[aL];exact BE _ (je h))
theorem hY:∀ {ls:List Leaf} {x:Nat×Nat},x∈dy st ls->x.1∈ax ls
 |[],_,h=>by simp[dy]at h
 |l::ls,x,h=>by
  cases l with
  |nal p H ep u E e I =>
   cases u with
   |none =>
    simp only[dy,BB]at h;rcases h with h|h
    ·split at h
     ·obtain⟨k,z,rfl⟩:=BL.1 h;rw[aL,it];exact BD _ (BF _ (BL.2 ⟨k,z,rfl⟩))
     ·simp at h
    ·rw[aL];exact BE _ (hY h)
   |some y=>(simp only[dy]at h;rw[aL];exact BE _ (hY h))
  |_=>(simp only[dy]at h;rw[aL];exact BE _ (hY h))
theorem iu:∀ {ks:List (Nat×Nat)},(∀ x∈ks,st' x.1=st x.1)->aN st' ks=aN st ks
 |[],_=>rfl
 |(r,j)::ks,h=>by
  simp only[aN,iu (ks:=ks) (λx u=>h x (BF _ u)),bi (h (r,j) (BG ..))]
theorem kb:∀ {ks:List (Nat×Nat)},(∀ x∈ks,st' x.1=st x.1)->aF st' ks=aF st ks
 |[],_=>rfl
 |(r,j)::ks,h=>by
  simp only[aF,kb (ks:=ks) (λx u=>h x (BF _ u)),bi (h (r,j) (BG ..))]
theorem tC {ls:List Leaf}(h:∀ q∈ax ls,st' q=st q):mvU st' ls=mvU st ls:=by
 unfold mvU;rw[qH h,o8 h,kb (λx u=>h _ (hY u))];simp only;rw[iu (λx u=>bi (h _ (je u)) _)]
theorem qI {ls:List Leaf}(h:∀ q∈ax ls,st' q=st q):hZ st' ls=hZ st ls:=by
 unfold hZ;rw[qH h,o8 h]
theorem jf:∀ (a:Ty) (ls:List Leaf),(∀ q∈ax ls,st' q=st q)->take st' a ls=take st a ls
 |.int k,ls,h=>by simp only[take,gD (.int k) ls h]
 |.bool,ls,h=>by simp only[take,gD .bool ls h]
 |.str,ls,h=>by simp only[take,gD .str ls h]
 |.unit,ls,h=>rfl
 |.hdr,ls,h=>by simp only[take,gD .hdr ls h]
 |.pair a b,ls,h=>by
  simp only[take,jf a ls h];cases z:take st a ls with
  |none=>rfl
  |some x =>
   have H:=ka.take_rest a ls x z;simp only;rw[jf b x.rest (λq u=>h q (fC a.cells ls q (by rw[<- H];exact u)))]
 |.list m E e,ls,h=>by
  cases ls with
  |nil=>rfl
  |cons l ls =>
   have y:∀ q∈ax [l],st' q=st q:=λq u=>h q (by rw[aL];exact BD _ u)
   simp only[take,ck y,jd y];congr 1;split
   ·rename_i r j v;rw[ck y]
   ·rfl
   ·rfl
theorem gS {a:Ty}{ls:List Leaf}(h:∀ q∈ax ls,st' q=st q):ci st' a ls=ci st a ls:=by
 unfold ci;rw[jf a ls h]
theorem nT:∀ (a:Ty) (ls:List Leaf) (t:cL a.den),take st a ls=some t->(∀ z∈t.frz,z.1∈ax ls)/\∀ z∈t.kill,z.1∈ax ls
 |.int k,ls,t,h=>by simp only[take,BI]at h;obtain⟨_,_,rfl⟩:=h;exact⟨by simp,by simp⟩
 |.bool,ls,t,h=>by simp only[take,BI]at h;obtain⟨_,_,rfl⟩:=h;exact⟨by simp,by simp⟩
 |.str,ls,t,h=>by simp only[take,BI]at h;obtain⟨_,_,rfl⟩:=h;exact⟨by simp,by simp⟩
 |.hdr,ls,t,h=>by simp only[take,BI]at h;obtain⟨_,_,rfl⟩:=h;exact⟨by simp,by simp⟩
 |.unit,ls,t,h=>by simp only[take,BA]at h;subst h;exact⟨by simp,by simp⟩
 |.pair a b,ls,t,h=>by
  simp only[take]at h;split at h
  ·rename_i x M;split at h
   ·rename_i y hy;simp only[BA]at h;subst h;have O:=ka.take_rest a ls x M;obtain⟨Z,Y⟩:=nT a ls x M;obtain⟨J,I⟩:=nT b x.rest y hy;rw[O]at J I;exact⟨λz u=>(BB.1 u).elim (Z z) (λu=>fC _ _ _ (J z u)),λz u=>(BB.1 u).elim (Y z) (λu=>fC _ _ _ (I z u))⟩
   ·cases h
  ·cases h
 |.list m E e,ls,t,h=>by
  cases ls with
  |nil=>simp[take]at h
  |cons l ls =>
   have H:∀ q∈ax [l],q∈ax (l::ls):=λq X=>by rw[aL];exact BD _ X
   cases m with
   |false =>
    simp only[take,cond_false]at h;split at h
    ·simp only[BA]at h;subst h;exact⟨λz u=>H _ (ew u),by simp⟩
    ·cases h
   |true =>
    simp only[take,cond_true]at h;split at h
    ·split at h
     ·simp only[BI]at h;obtain⟨_,_,rfl⟩:=h;exact⟨by simp,λz u=>by simp at u;subst u;exact H _ (by simp[ax])⟩
     ·cases h
    ·simp only[BA]at h;subst h;exact⟨by simp,by simp⟩
    ·cases h
theorem iW {a:Ty}{ls:List Leaf}{t:cL a.den}(h:ci st a ls=some t):(∀ z∈t.frz,z.1∈ax ls)/\∀ z∈t.kill,z.1∈ax ls:=by
 unfold ci at h;split at h
 ·rename_i p x f k u;simp only[BA]at h;subst h;exact nT a ls _ u
 ·cases h
theorem jX:∀ {off n:Nat} (a:Ty) (pos:Nat) (x:a.den) (ls:List Leaf) (t:cL a.den),c9 st off n a pos x ls=some t->∃ k,t.rest=ls.drop k
 |off,n,.pair a b,pos,x,ls,t,h=>by
  simp only[c9]at h;split at h
  ·rename_i u M;split at h
   ·rename_i v I;simp only[BA]at h;subst h;obtain⟨H,J⟩:=jX a pos x.1 ls u M;obtain⟨z,y⟩:=jX b (pos+a.cells) x.2 u.rest v I;exact⟨H+z,by show v.rest=_;rw[y,J,Ca]⟩
   ·cases h
  ·cases h
 |off,n,.unit,pos,x,ls,t,h=>by simp only[c9,BA]at h;subst h;exact⟨0,rfl⟩
 |off,n,.hdr,pos,x,ls,t,h=>by simp[c9]at h
 |off,n,.int k,pos,x,ls,t,h=>sc (a:=.int k) h
 |off,n,.bool,pos,x,ls,t,h=>sc (a:=.bool) h
 |off,n,.str,pos,x,ls,t,h=>sc (a:=.str) h
 |off,n,.list m E e,pos,x,ls,t,h=>sc (a:=.list m E e) h
where
 sc {a:Ty} {b:Bool} {x:a.den} {ls:List Leaf} {t:cL a.den} (h:(bif b then take st a ls else some ⟨false,x,[],[],ls⟩)=some t):∃ k,t.rest=ls.drop k:=by
  cases b with
  |true=>exact⟨_,ka.take_rest a ls t h⟩
  |false=>simp only[cond_false,BA]at h;subst h;exact⟨0,rfl⟩
theorem pa:∀ {off n:Nat} (a:Ty) (pos:Nat) (x:a.den) (ls:List Leaf),(∀ q∈ax ls,st' q=st q)->c9 st' off n a pos x ls=c9 st off n a pos x ls
 |off,n,.pair a b,pos,x,ls,h=>by
  simp only[c9,pa a pos x.1 ls h];cases z:c9 st off n a pos x.1 ls with
  |none=>rfl
  |some u =>
   obtain⟨k,e⟩:=jX a pos x.1 ls u z;simp only;rw[pa b (pos+a.cells) x.2 u.rest (λq y=>h q (fC k ls q (by rw[<- e];exact y)))]
 |off,n,.unit,pos,x,ls,h=>rfl
 |off,n,.hdr,pos,x,ls,h=>rfl
 |off,n,.int k,pos,x,ls,h=>by simp only[c9,jf (.int k) ls h]
 |off,n,.bool,pos,x,ls,h=>by simp only[c9,jf .bool ls h]
 |off,n,.str,pos,x,ls,h=>by simp only[c9,jf .str ls h]
 |off,n,.list m E e,pos,x,ls,h=>by simp only[c9,jf (.list m E e) ls h]
theorem pb:∀ {off n:Nat} (a:Ty) (pos:Nat) (x:a.den) (ls:List Leaf) (t:cL a.den),c9 st off n a pos x ls=some t->(∀ z∈t.frz,z.1∈ax ls)/\∀ z∈t.kill,z.1∈ax ls
 |off,n,.pair a b,pos,x,ls,t,h=>by
  simp only[c9]at h;split at h
  ·rename_i u J;split at h
   ·rename_i v X;simp only[BA]at h;subst h;obtain⟨k,e⟩:=jX a pos x.1 ls u J;obtain⟨O,M⟩:=pb a pos x.1 ls u J;obtain⟨I,H⟩:=pb b (pos+a.cells) x.2 u.rest v X;rw[e]at I H;exact⟨λz y=>(BB.1 y).elim (O z) (λy=>fC _ _ _ (I z y)),λz y=>(BB.1 y).elim (M z) (λy=>fC _ _ _ (H z y))⟩
   ·cases h
  ·cases h
 |off,n,.unit,pos,x,ls,t,h=>by simp only[c9,BA]at h;subst h;exact⟨by simp,by simp⟩
 |off,n,.hdr,pos,x,ls,t,h=>by simp[c9]at h
 |off,n,.int k,pos,x,ls,t,h=>sc (a:=.int k) h
 |off,n,.bool,pos,x,ls,t,h=>sc (a:=.bool) h
 |off,n,.str,pos,x,ls,t,h=>sc (a:=.str) h
 |off,n,.list m E e,pos,x,ls,t,h=>sc (a:=.list m E e) h
where
 sc {a:Ty} {b:Bool} {x:a.den} {ls:List Leaf} {t:cL a.den} (h:(bif b then take st a ls else some ⟨false,x,[],[],ls⟩)=some t):(∀ z∈t.frz,z.1∈ax ls)/\∀ z∈t.kill,z.1∈ax ls:=by
  cases b with
  |true=>exact nT a ls t h
  |false=>simp only[cond_false,BA]at h;subst h;exact⟨by simp,by simp⟩
theorem u7 {U:Upd}{d:Nat}{sh:aI}{ls:List Leaf}(h:st' d=st d):cl st' U d sh ls=cl st U d sh ls:=by
 simp only[cl,bi h]
theorem rz:∀ {xs:List Operand} {t:Nat},Operand.tmp t∈xs->t∈iz xs
 |[],_,h=>by simp at h
 |x::xs,t,h=>by
  rcases BO.1 h with rfl|h
  ·simp[iz]
  ·have u:=rz h;cases x <;> simp[iz,u]
theorem nl (t n:Nat):∀ (j:Nat) (ls:List Leaf) (q:Nat),q∈ax (bE t n j ls)->q=t\/q∈ax ls
 |_,[],_,h=>by simp[bE,ax]at h
 |j,l::ls,q,h=>by
  simp only[bE]at h;rw[aL,BB]at h;rw[aL,BB];rcases h with h|h
  ·cases l with
   |own p u E e y=>simp[lE,ax]at h;exact .inl h
   |_=>exact .inr (.inl h)
  ·exact (nl t n (j+1) ls q h).imp id .inr
theorem k9:∀ (y u:List Leaf),az (y++u)=az y++az u
 |[],_=>rfl
 |l::y,u=>by cases l <;> simp[az,k9 y u]
theorem dw (l:Leaf)(ls:List Leaf):az (l::ls)=az [l]++az ls:=k9 [l] ls
theorem fD:∀ {ls:List Leaf} {q:Nat},q∈ax ls->q∈az ls
 |[],_,h=>by simp[ax]at h
 |l::ls,q,h=>by
  rw[aL,BB]at h;rw[dw,BB];rcases h with h|h
  ·left;cases l with
   |nal p u ep y E e z=>simp[ax]at h;simpa[az]using h
   |np p u ep a x off=>simp[ax]at h;simpa[az]using h
   |_=>simp[ax]at h <;> simp[az,h]
  ·exact .inr (fD h)
theorem nm (t n:Nat):∀ (j:Nat) (ls:List Leaf) (q:Nat),q∈az (bE t n j ls)->q=t\/q∈az ls
 |_,[],_,h=>by simp[bE,az]at h
 |j,l::ls,q,h=>by
  simp only[bE]at h;rw[dw,BB]at h;rw[dw,BB];rcases h with h|h
  ·cases l with
   |own p u E e y=>simp[lE,az]at h;exact .inl h
   |_=>exact .inr (.inl h)
  ·exact (nm t n (j+1) ls q h).imp id .inr
theorem rA {x:Operand}{q:Nat}(h:q∈ax (av st x).2):∃ t,x=.tmp t/\(q=t\/q∈ax (st t).ls):=by
 cases x with
 |tmp t =>
  simp only[av]at h;cases y:CW t GH with
  |false=>simp[y,ax]at h
  |true=>simp only[y,cond_true]at h;exact⟨t,rfl,nl _ _ _ _ _ h⟩
 |const v =>
  simp only[av]at h;split at h
  ·rename_i l u;unfold iv at u;split at u <;> simp at u <;> subst u <;> simp[ax]at h
  ·simp[ax]at h
 |func f=>simp[av,ax]at h
 |global g=>simp[av,ax]at h
theorem rB {x:Operand}{q:Nat}(h:q∈az (av st x).2):∃ t,x=.tmp t/\(q=t\/q∈az (st t).ls):=by
 cases x with
 |tmp t =>
  simp only[av]at h;cases y:CW t GH with
  |false=>simp[y,az]at h
  |true=>simp only[y,cond_true]at h;exact⟨t,rfl,nm _ _ _ _ _ h⟩
 |const v =>
  simp only[av]at h;split at h
  ·rename_i l u;unfold iv at u;split at u <;> simp at u <;> subst u <;> simp[az]at h
  ·simp[az]at h
 |func f=>simp[av,az]at h
 |global g=>simp[av,az]at h
theorem qJ {x:Operand}{l:Leaf}(h:one st x=l)(u:l≠.dead):(av st x).2=[l]:=by
 unfold one at h;split at h
 ·rename_i z y;rw[y,h]
 ·exact absurd h.symm u
theorem jg {x:Operand}{q:Nat}(h:q∈ax [one st x]):q∈ax (av st x).2:=by
 by_cases u:one st x=.dead
 ·rw[u]at h;simp[ax]at h
 ·rw[qJ rfl u];exact h
theorem tD {x:Operand}{q:Nat}(h:q∈az [one st x]):q∈az (av st x).2:=by
 by_cases u:one st x=.dead
 ·rw[u]at h;simp[az]at h
 ·rw[qJ rfl u];exact h
def jo:Leaf->Bool×Leaf
 |.own _ _ _ e u=>(true,.ep 0 0 0 e.cells u.length 0)
 |l=>(false,l)
def bJ (c:bT):Nat×aI×List (Bool×Leaf):=(c.ver,c.sh,c.ls.map jo)
theorem tE {l l':Leaf}(h:jo l'=jo l):l'=l\/∃ (p p':Bool) (z y:Option (Nat×Nat)) (E E':TypeId) (e e':Ty) (xs:List e.den) (u:List e'.den),l=.own p z E e xs/\l'=.own p' y E' e' u/\e'.cells=e.cells/\u.length=xs.length:=by
 cases l <;> cases l' <;> simp only[jo,BS,CL,reduceCtorEq,false_and,and_false,true_and,Leaf.ep.injEq,Bool.true_eq_false]at h <;>
  first
  |exact .inr ⟨_,_,_,_,_,_,_,_,_,_,rfl,rfl,h.1,h.2.1⟩
  |exact .inr ⟨_,_,_,_,_,_,_,_,_,_,rfl,rfl,h.1,h.2⟩
  |exact .inl rfl
  |exact .inl (by rw[h])
  |exact .inl h
  |(obtain⟨rfl,rfl,rfl,rfl,rfl,rfl⟩:=h;exact .inl rfl)
theorem p9 (t n:Nat):∀ (j:Nat) (ls u:List Leaf),u.map jo=ls.map jo->bE t n j u=bE t n j ls
 |_,[],[],_=>rfl
 |_,[],_::_,h=>by simp at h
 |_,_::_,[],h=>by simp at h
 |j,l::ls,M::u,h=>by
  simp only[BY,CX]at h;simp only[bE,p9 t n (j+1) ls u h.2];rcases tE h.1 with e|⟨p,Z,O,H,E,J,e,X,Y,z,I,y,_,_⟩
  ·rw[e]
  ·rw[I,y];rfl
theorem xO {x:Operand}(h:∀ t,x=.tmp t->bJ (st' t)=bJ (st t)):av st' x=av st x:=by
 cases x with
 |tmp t =>
  have:=h t rfl;simp only[bJ,BS]at this;simp only[av,this.1,this.2.1,p9 _ _ _ _ _ this.2.2]
 |_=>rfl
theorem zr {x:Operand}(h:∀ t,x=.tmp t->bJ (st' t)=bJ (st t)):one st' x=one st x:=by
 unfold one;rw[xO h]
theorem xP {c u:bT}(h:bJ u=bJ c)(j:Nat):jo (u.ls.getD j .dead)=jo (c.ls.getD j .dead):=by
 simp only[bJ,BS]at h;have:=congrArg (λl=>l[j]?) h.2.2;simp only[Cn]at this;rw[BP,BP];generalize u.ls[j]?=a at this;generalize c.ls[j]?=b at this
 match a,b,this with
 |none,none,_=>rfl
 |some x,some y,h=>exact Cv h
theorem rD (l:Leaf):lk l=(jo l).1:=by cases l <;> rfl
theorem yX {ks:List (Nat×Nat×Nat)}{ep:Nat}(h:∀ q∈EPO::ks.map (·.1),bJ (st' q)=bJ (st q)):bk st' ks ep=bk st ks ep:=by
 unfold bk;have z:=h EPO (BG ..);simp only[bJ,BS]at z;rw[z.1];congr 1;induction ks with
 |nil=>rfl
 |cons k ks H =>
  have y:=h k.1 (by simp);have I:(st' k.1).ver=(st k.1).ver:=by simp only[bJ,BS]at y;exact y.1
  rw[CS,CS,H (λq u=>h q (by simp at u ⊢;rcases u with u|u;exact .inl u;exact .inr (.inr u))),rD,rD,xP y,I]
end
section
variable {P:Program} {V:Env} {Γ:List Ctr} {T:TypeId->TI} {st st':St} {o:Oper} {R:Type} {κ:Upd->Option R} {r:R}
theorem tF {d:Nat}(u:o.dst=some d)(h:∀ q∈fh st o,st' q=st q):st' d=st d/\st' (B0+d)=st (B0+d):=by
 refine⟨h d ?_,h (B0+d) ?_⟩ <;> simp[fh,zf,u]
theorem la {ls:List Leaf}(h:∀ q∈ax ls,st' q=st q):∀ x∈bu st ls,st' x.1=st x.1:=λx u=>h _ (ew u)
theorem qa {u:List (Nat×Nat×Bool)}:∀ (ps:List (Nat×Operand)) (ls:List Leaf),(∀ x∈ps,∀ t,x.2=.tmp t->st' t=st t)->fg st' u ps ls=fg st u ps ls
 |[],_,_=>rfl
 |(i,x)::ps,ls,h=>by
  simp only[fg,dS (h (i,x) (BG ..))];split
  ·rw[qa ps _ (λy z=>h y (BF _ z))]
  ·rfl
theorem ox {e:Ty}:∀ (ps:List (Nat×Operand)) (k:Nat),(∀ x∈ps,(∀ t,x.2=.tmp t->st' t=st t)/\∀ q∈ax (av st x.2).2,st' q=st q)->ey st' e k ps=ey st e k ps
 |[],_,_=>rfl
 |(i,x)::ps,k,h=>by
  have u:=h (i,x) (BG ..);simp only[ey,dS u.1,gS u.2,ox ps (k+1) (λy z=>h y (BF _ z))]
theorem oy {e:Ty}:∀ (ps:List (Nat×Operand)) (k:Nat) (u:cL (List e.den)),ey st e k ps=some u->∀ z,z∈u.frz\/z∈u.kill->∃ x∈ps,z.1∈ax (av st x.2).2
 |[],_,_,h=>by simp only[ey,BA]at h;subst h;simp
 |(i,x)::ps,k,u,h=>by
  simp only[ey]at h;cases O:BJ i k&&decide ((av st x).1=bg e.isAgg) with
  |false=>simp[O]at h
  |true =>
   simp only[O,cond_true]at h;split at h
   ·rename_i t1 J hg M;simp only[BA]at h;subst h;intro z H;obtain⟨X,Z⟩:=iW hg;have I:(z∈t1.frz\/z∈t1.kill)\/(z∈J.frz\/z∈J.kill):=by
     rcases H with H|H <;> rcases BB.1 H with H|H
     ·exact .inl (.inl H)
     ·exact .inr (.inl H)
     ·exact .inl (.inr H)
     ·exact .inr (.inr H)
    rcases I with H|H
    ·exact⟨(i,x),BG ..,H.elim (X z) (Z z)⟩
    ·obtain⟨y,hy,Y⟩:=oy ps (k+1) J M z H;exact⟨y,BF _ hy,Y⟩
   ·cases h
theorem nn {x:Option Operand}{n:Int}(h:∀ y,x=some y->∀ t,y=.tmp t->st' t=st t):di st' x n=di st x n:=by
 cases x with
 |none=>rfl
 |some y=>simp only[di,dE (h y rfl)]
theorem u9:∀ (xs:List Operand) (u:Option (List Nat)),(∀ x∈xs,∀ t,x=.tmp t->st' t=st t) ->
  xs.foldl (λ (u:Option (List Nat)) x=>u.bind λl=>match one st' x with|.bp b 0=>some (l++[b])|_=>none) u =
  xs.foldl (λ (u:Option (List Nat)) x=>u.bind λl=>match one st x with|.bp b 0=>some (l++[b])|_=>none) u
 |[],_,_=>rfl
 |x::xs,u,h=>by
  simp only[Cw,dE (h x (BG ..))];exact u9 xs _ (λy z=>h y (BF _ z))
theorem qb {l:Leaf}(y:st' TMP=st TMP)(I:st' EPO=st EPO)(h:∀ q∈ax [l],st' q=st q):cm st' l=cm st l:=by
 cases l with
 |nal p H ep u E e M =>
  rw[it]at h;simp only[cm,jB h,y,I];congr 1
  match H,u,h with
  |[(r,j,n)],some (i,J,off),h =>
   have z:=h r (by simp);simp only[z]
  |[(r,j,n)],none,_=>rfl
  |[],_,_=>rfl
  |_::_::_,_,_=>rfl
 |_=>rfl
theorem oz {l l':Leaf}{U:Upd}(h:cm st l=some (U,l')):∃ n,l'=.al TMP 0 n/\∀ q,q≠TMP->∀ z∈az (ae U st q).ls,z∈az (st q).ls:=by
 cases l with
 |nal p ks ep a0 E e Y =>
  simp only[cm]at h;cases H:bk st ks ep with
  |false=>simp[H]at h
  |true =>
   rw[H]at h;simp only[cond_true]at h;split at h
   ·rename_i r j n0 i sz off;split at h
    ·rename_i Z E' J M hg;cases X:!BJ r TMP&&!BJ r EPO&&BJ sz J.cells with
     |false=>simp[X]at h
     |true =>
      rw[X]at h;simp only[cond_true]at h;split at h
      ·split at h
       ·rename_i y _ _ _ _ _;simp only[BA,BS]at h;obtain⟨rfl,rfl⟩:=h;refine⟨_,rfl,λq hq z u=>?_⟩;rw[aP]at u;rcases an r q ⟨(st r).ver,(st r).sh,aT (st r).ls j (.own Z (some (i,off)) E' J M)⟩ (ae [(TMP,⟨(st TMP).ver+1,.one,[.own (Z&&J.shy) none _ _ _]⟩),(EPO,bV (st EPO))] st) with ⟨rfl,O⟩|⟨_,O⟩
        ·rw[O]at u;exact refs_set u
        ·rw[O,aP,aJ hq]at u;rcases an EPO q (bV (st EPO)) st with ⟨rfl,e1⟩|⟨_,e1⟩ <;> rw[e1]at u <;> exact u
       ·cases h
      ·cases h
    ·cases h
   ·cases h
 |_=>simp[cm]at h
where
 refs_set {I:List Leaf} {j z:Nat} {p:Bool} {hh:Option (Nat×Nat)} {E:TypeId} {e:Ty} {Y:List e.den} (h:z∈az (aT I j (.own p hh E e Y))):z∈az I:=by
  unfold aT at h;induction I generalizing j with
  |nil=>simpa using h
  |cons l I ih =>
   cases j with
   |zero =>
    rw[List.set_cons_zero,dw,BB]at h;rw[dw,BB];rcases h with h|h
    ·simp[az]at h
    ·exact .inr h
   |succ j =>
    rw[Ck,dw,BB]at h;rw[dw,BB];exact h.imp id ih
theorem uy {l l':Leaf}{U:Upd}(h:cm st l=some (U,l')):az (ae U st TMP).ls=[]:=by
 cases l with
 |nal p O ep I E e xs =>
  simp only[cm]at h;cases u:bk st O ep with
  |false=>simp[u]at h
  |true =>
   rw[u]at h;simp only[cond_true]at h;split at h
   ·rename_i r j Y i M off;split at h
    ·rename_i p' X H J Z;cases y:!BJ r TMP&&!BJ r EPO&&BJ M H.cells with
     |false=>simp[y]at h
     |true =>
      rw[y]at h;simp only[cond_true]at h;have z:TMP≠r:=λe=>by subst e;simp at y
      split at h
      ·split at h
       ·simp only[BA,BS]at h;obtain⟨rfl,rfl⟩:=h;rw[aP,aJ z,aP,bh];rfl
       ·cases h
      ·cases h
    ·cases h
   ·cases h
 |_=>simp[cm]at h
theorem wk {E:TypeId}{e:Ty}{y:Leaf}(u:∀ q∈ax [y],st' q=st q):fO st' E e y=fO st E e y:=by
 unfold fO;rw[ck u,jd u,gS u]
theorem wm {E:TypeId}{e:Ty}{y:Leaf}{t:cL (List e.den)}(h:fO st E e y=some t):(∀ z∈t.frz,z.1∈ax [y])/\∀ z∈t.kill,z.1∈ax [y]:=by
 unfold fO at h;cases u:e.flat with
 |true =>
  rw[u]at h;simp only[cond_true,BI]at h;obtain⟨_,_,rfl⟩:=h;exact⟨by simp,by simp⟩
 |false =>
  rw[u]at h;simp only[cond_false]at h;cases H:decide (e.sh=e) with
  |true =>
   rw[H]at h;simp only[cond_true,BI]at h;obtain⟨_,_,rfl⟩:=h;exact⟨λz J=>ew J,by simp⟩
  |false =>
   rw[H]at h;simp only[cond_false,BI]at h;obtain⟨M,I,rfl⟩:=h;exact iW I
theorem lf {u:Upd}{d:Nat}{E:TypeId}{e:Ty}{H:Nat}{p:Bool}{xs:List e.den}{ks:List (Nat×Nat)}{y:Leaf}(M:∀ z∈ks,st' z.1=st z.1)(O:∀ q∈ax [y],st' q=st q)(hd:st' d=st d) :
  dU st' (ae u st') u d E e H p xs ks y κ=dU st (ae u st) u d E e H p xs ks y κ:=by
 unfold dU;have J:∀ q,st' q=st q->ae u st' q=ae u st q:=λq h=>bi h u
 rw[wk (st:=ae u st) (st':=ae u st') (λq Z=>J q (O q Z))];split
 ·rename_i t ht;obtain⟨X,p2⟩:=wm ht;have e1:aF (ae u st') t.frz=aF (ae u st) t.frz:=kb (λz I=>J _ (O _ (X z I)));have Y:∀ U:Upd,aN (ae U (ae u st')) (t.kill++ks)=aN (ae U (ae u st)) (t.kill++ks):=λU=>iu (λz I=>bi (J _ ((BB.1 I).elim (λI=>O _ (p2 z I)) (M z))) U)
  simp only[e1,Y,u7 hd]
 ·rfl
theorem wn {H:Upd}{d:Nat}{E:TypeId}{e:Ty}{u:Nat}{x y:Leaf}(O:∀ q∈ax [x],st' q=st q)(M:∀ q∈ax [y],st' q=st q)(I:st' d=st d):eq st' H d E e u x y κ=eq st H d E e u x y κ:=by
 unfold eq;cases x with
 |al r j v =>
  have Y:st' r=st r:=O r (by simp[ax]);simp only;rw[ck (st:=ae H st) (st':=ae H st') (l:=.al r j v) (λq X=>bi (O q X) H)];split
  ·rw[lf (λz J=>by simp at J;subst J;exact Y) M I]
  ·rfl
 |nil=>exact lf (by simp) M I
 |_=>rfl
theorem wo {d:Nat}{E:TypeId}{e:Ty}{H:Nat}{x y:Leaf}(I:st' TMP=st TMP)(M:∀ q∈ax [x],st' q=st q)(Y:∀ q∈ax [y],st' q=st q)(X:st' d=st d):iy st' d E e H x y κ=iy st d E e H x y κ:=by
 unfold iy;rw[wn M Y X,hH,hH];cases hn:jj x with
 |false=>rfl
 |true =>
  simp only[cond_true];have hE:st' EPO=st EPO:=by
   cases x with
   |nal p ks ep a0 E e xs=>exact M EPO (by rw[it];exact BG ..)
   |_=>simp[jj]at hn
  rw[qb I hE M];cases hu:cm st x with
  |none=>rfl
  |some u =>
   obtain⟨n,e1,_⟩:=oz (U:=u.1) (l':=u.2) hu;simp only[B6];rw[e1];unfold eq;simp only;have Z:∀ q,q=TMP->ae u.1 st' q=ae u.1 st q:=λq J=>by rw[J];exact bi I u.1
   rw[ck (st:=ae u.1 st) (st':=ae u.1 st') (l:=.al TMP 0 n) (λq J=>Z q (by simpa[ax]using J))];split
   ·rw[lf (λz O=>by simp at O;subst O;exact I) Y X]
   ·rfl
structure eL (st st':St) (ls:List Leaf):Prop where
 d1:∀ q∈az ls,st' q=st q
 d2:∀ r∈az ls,∀ q∈az (st r).ls,st' q=st q
 d3:∀ r∈az ls,∀ r2∈az (st r).ls,∀ q∈az (st r2).ls,st' q=st q
theorem kr (p:Bool):∀ (a:Ty) (x:a.den),az (cK p a x)=[]
 |.int _,_=>rfl
 |.bool,_=>rfl
 |.str,_=>rfl
 |.unit,_=>rfl
 |.hdr,_=>rfl
 |.pair a b,x=>by simp[cK,k9,kr p a,kr p b]
 |.list _ _ _,_=>rfl
theorem rE {l:Leaf}(h:∀ q∈az [l],st' q=st q):target st' l=target st l:=by
 unfold target;cases l with
 |bp b off =>
  have u:=h b (by simp[az]);cases off with
  |zero=>simp only[u]
  |succ n=>rfl
 |rp p a x off=>cases off <;> rfl
 |_=>rfl
theorem lg {l:Leaf}{ls:List Leaf}(h:target st l=some ls):∀ q∈az ls,q∈az [l]\/∃ r∈az [l],q∈az (st r).ls:=by
 unfold target at h;split at h
 ·rename_i b;cases y:decide ((st b).sh=.agg) with
  |false=>simp[y]at h
  |true =>
   simp only[y,cond_true,BA]at h;subst h;intro q u;rcases nm _ _ _ _ _ u with rfl|u
   ·exact .inl (by simp[az])
   ·exact .inr ⟨b,by simp[az],u⟩
 ·simp only[BA]at h;subst h;intro q u;rw[kr]at u;simp at u
 ·simp only[BA]at h;subst h;intro q u;simp[az]at u
 ·cases h
theorem iX {x:aI×List Leaf}{q:Nat}(h:q∈az [cn x]):q∈az x.2:=by
 unfold cn at h;split at h
 ·exact h
 ·simp[az]at h
theorem eL.target {l:Leaf}{ls:List Leaf}(h:eL st st' [l])(H:Go.Proofs.YtaelpfghkndliaaGreatEv.target st l=some ls):(∀ q∈az ls,st' q=st q)/\∀ r∈az ls,∀ q∈az (st r).ls,st' q=st q:=by
 constructor
 ·intro q y;rcases lg H q y with u|⟨r,u,z⟩
  ·exact h.d1 q u
  ·exact h.d2 r u q z
 ·intro r J q y;rcases lg H r J with u|⟨I,u,z⟩
  ·exact h.d2 r u q y
  ·exact h.d3 I u r z q y
theorem eL.one {x:aI×List Leaf}(h:eL st st' x.2):eL st st' [cn x] :=
 ⟨λq y=>h.d1 q (iX y),λr u=>h.d2 r (iX u),λr u=>h.d3 r (iX u)⟩
def nq {α:Type}(st st':St)(g:Got α):Prop:=(∀ z∈g.frz,st' z.1=st z.1)/\(∀ z∈g.kill,st' z.1=st z.1)
theorem nr {c:Bool×Ty}{l:Leaf}(X:eL st st' [l]):ff st' c l=ff st c l/\∀ g,ff st c l=some g->nq st st' g:=by
 unfold ff;rw[rE X.d1];cases O:target st l with
 |none=>cases c.1 <;> exact⟨rfl,by simp⟩
 |some Y =>
  have y:=X.target O;cases hc:c.1 with
  |false =>
   have u:∀ q∈ax Y,st' q=st q:=λq I=>y.1 q (fD I)
   simp only[cond_false,eD u,jd u,true_and];intro g z;simp only[BI]at z;obtain⟨_,_,rfl⟩:=z;exact⟨la u,by simp[Got.ofRd]⟩
  |true =>
   simp only[cond_true]
   match Y,y,O with
   |[],_,_=>exact⟨rfl,by simp⟩
   |_::_::_,_,_=>exact⟨rfl,by simp⟩
   |[Z],y,O =>
    simp only[rE y.1];cases J:target st Z with
    |none=>exact⟨rfl,by simp⟩
    |some H =>
     have u:∀ q∈ax H,st' q=st q:=by
      intro q I;rcases lg J q (fD I) with M|⟨r,M,h5⟩
      ·exact y.1 q M
      ·exact y.2 r M q h5
     simp only[eD u,jd u,true_and];intro g z;simp only[BI]at z;obtain⟨_,_,rfl⟩:=z;exact⟨la u,by simp[Got.ofRd]⟩
theorem mp:∀ (cs:List (Bool×Ty)) (ls:List Leaf),(∀ l∈ls,eL st st' [l])->cB st' cs ls=cB st cs ls/\∀ g,cB st cs ls=some g->nq st st' g
 |[],[],_=>⟨rfl,λg u=>by simp only[cB,BA]at u;subst u;exact⟨by simp,by simp⟩⟩
 |[],_::_,_=>⟨rfl,λg u=>by simp[cB]at u⟩
 |_::_,[],_=>⟨rfl,λg u=>by simp[cB]at u⟩
 |c::cs,l::ls,h=>by
  obtain⟨O,M⟩:=nr (c:=c) (h l (BG ..));obtain⟨Z,X⟩:=mp cs ls (λy hy=>h y (BF _ hy));simp only[cB,O,Z,true_and];intro g u;split at u
  ·rename_i g1 H;split at u
   ·rename_i Y I;simp only[BA]at u;subst u;exact⟨λz J=>(BB.1 J).elim ((M g1 H).1 z) ((X Y I).1 z),by simp⟩
   ·cases u
  ·cases u
theorem oA {c:Nat}{q:Nat}:∀ {ls:List Leaf} {c:Nat},q∈ax (aT ls c .nil)->q∈ax ls
 |[],_,h=>h
 |l::ls,0,h=>by
  rw[show aT (l::ls) 0 .nil=.nil::ls from rfl,aL,BB]at h;rw[aL,BB];rcases h with h|h
  ·simp[ax]at h
  ·exact .inr h
 |l::ls,c+1,h=>by
  rw[show aT (l::ls) (c+1) .nil=l::aT ls c .nil from rfl,aL,BB]at h;rw[aL,BB];exact h.imp id (oA (c:=c))
theorem pc {caps:List Nat}{f:FuncId}(H:eL st st' [.clo f caps]):∀ l∈caps.map (λb=>Leaf.bp b 0),eL st st' [l]:=by
 intro l J;obtain⟨b,M,rfl⟩:=BL.1 J;have u:b∈az [Leaf.clo f caps]:=by simp[az,M]
 have y:∀ r∈az [Leaf.bp b 0],r=b:=λr z=>by simpa[az]using z
 exact⟨λq I=>H.d1 q (by rw[y q I];exact u),λr z=>H.d2 r (by rw[y r z];exact u),λr z=>H.d3 r (by rw[y r z];exact u)⟩
theorem nu {caps:List (Bool×Bool×(a:Ty)×a.den)}:∀ l∈caps.map eM,eL st st' [l]:=by
 intro l z;obtain⟨c,H,rfl⟩:=BL.1 z;have:∀ q,q∉az [eM c]:=by
  intro q u;unfold eM at u;cases y:c.2.1 <;> rw[y]at u <;> simp[az]at u
 exact⟨λq u=>absurd u (this q),λq u=>absurd u (this q),λq u=>absurd u (this q)⟩
theorem eo {pk:PK}{x:aI×List Leaf}(h:eL st st' x.2):bf st' pk x=bf st pk x/\∀ g,bf st pk x=some g->nq st st' g:=by
 have Z:∀ q∈ax x.2,st' q=st q:=λq O=>h.d1 q (fD O)
 have h1:=h.one;have H:∀ {b:Bool} {a:Ty} {g:Got a.den},(bif b then (ci st a x.2).map (λt=>(⟨t.p,t.val,t.frz,t.kill,[],[]⟩:Got a.den)) else none)=some g->nq st st' g:=by
  intro b a g u;cases b with
  |false=>simp at u
  |true =>
   simp only[cond_true,BI]at u;obtain⟨t,ht,rfl⟩:=u;obtain⟨p1,p2⟩:=iW ht;exact⟨λz I=>Z _ (p1 z I),λz I=>Z _ (p2 z I)⟩
 cases pk with
 |rd a =>
  simp only[bf,eD Z,jd Z,true_and];intro g u;cases M:decide (x.1=bg a.isAgg) with
  |false=>simp[M]at u
  |true =>
   simp only[M,cond_true,BI]at u;obtain⟨y,_,rfl⟩:=u;exact⟨la Z,by simp[Got.ofRd]⟩
 |own a =>
  simp only[bf,gS Z,true_and];exact λg u=>H u
 |io a =>
  simp only[bf,gS Z,true_and];exact λg u=>H u
 |rref a=>exact nr (c:=(false,a)) h1
 |rref2 a=>exact nr (c:=(true,a)) h1
 |iop a =>
  simp only[bf];split
  ·rename_i b Y;rw[Y]at h1;have M:=h1.d1 b (by simp[az]);have h3:∀ q∈ax (bE b (st b).ver 0 (st b).ls),st' q=st q:=by
    intro q O;rcases nl _ _ _ _ _ O with rfl|O
    ·exact M
    ·exact h1.d2 b (by simp[az]) q (fD O)
   simp only[M,gS h3,true_and];intro g u;cases a0:decide ((st b).sh=.agg) with
   |false=>simp[a0]at u
   |true =>
    simp only[a0,cond_true,BI]at u;obtain⟨t,ht,rfl⟩:=u;obtain⟨p1,p2⟩:=iW ht;exact⟨λz I=>h3 _ (p1 z I),λz I=>h3 _ (p2 z I)⟩
  ·exact⟨rfl,by simp⟩
 |fn As B =>
  simp only[bf,true_and];intro g u;split at u
  ·split at u
   ·simp only[BA]at u;subst u;exact⟨by simp,by simp⟩
   ·cases u
  ·cases u
 |clo f cs =>
  simp only[bf];split
  ·rename_i f' caps Y;rw[Y]at h1;have:=mp cs _ (pc h1);rw[this.1];refine⟨rfl,λg u=>?_⟩;cases M:BJ f' f with
   |false=>simp[M]at u
   |true=>rw[M]at u;exact this.2 g u
  ·rename_i f' caps Y;have:=mp (st:=st) (st':=st') cs _ (nu (caps:=caps));rw[this.1];refine⟨rfl,λg u=>?_⟩;cases M:BJ f' f with
   |false=>simp[M]at u
   |true=>rw[M]at u;exact this.2 g u
  ·exact⟨rfl,by simp⟩
 |hol a c off =>
  simp only[bf];have X:∀ q∈ax (aT x.2 c .nil),st' q=st q:=λq O=>Z q (oA (c:=c) O)
  rw[gS X];cases M:decide (x.1=bg a.isAgg) with
  |false=>exact⟨rfl,by simp⟩
  |true =>
   simp only[cond_true];split
   ·rename_i r j v J;have a2:x.2[c]?=some (.al r j v):=by
     rw[BP]at J;cases O:x.2[c]? with
     |none=>rw[O]at J;simp at J
     |some l0=>rw[O]at J;simp at J;rw[J]
    have hr:=λq O=>Z q (qG a2 q O)
    rw[ck hr];refine⟨rfl,λg u=>?_⟩;split at u
    ·rename_i p i o' E e xs _;cases a1:BJ o' off with
     |false=>simp[a1]at u
     |true =>
      rw[a1]at u;simp only[cond_true]at u;split at u
      ·rename_i t ht;split at u
       ·simp only[BA]at u;subst u;obtain⟨p1,p2⟩:=iW ht;refine⟨λz I=>X _ (p1 z I),λz I=>?_⟩;rcases BO.1 I with rfl|I
        ·exact hr r (by simp[ax])
        ·exact X _ (p2 z I)
       ·cases u
      ·cases u
    ·cases u
   ·exact⟨rfl,by simp⟩
theorem kt {ga ga':(pk:PK)->aI×List Leaf->Option (Got pk.den)}:∀ (ps:List PK) (xs:List (aI×List Leaf)),
  (∀ x∈xs,∀ pk,ga' pk x=ga pk x/\∀ g,ga pk x=some g->nq st st' g) ->
  a8 ga' ps xs=a8 ga ps xs/\∀ g,a8 ga ps xs=some g->nq st st' g
 |[],[],_=>⟨rfl,λg u=>by simp only[a8,BA]at u;subst u;exact⟨by simp,by simp⟩⟩
 |[],_::_,_=>⟨rfl,λg u=>by simp[a8]at u⟩
 |_::_,[],_=>⟨rfl,λg u=>by simp[a8]at u⟩
 |p::ps,x::xs,h=>by
  obtain⟨Z,M⟩:=h x (BG ..) p;obtain⟨h3,O⟩:=kt ps xs (λy hy=>h y (BF _ hy));simp only[a8,Z,h3,true_and];intro g u;split at u
  ·rename_i Y H;split at u
   ·rename_i X I;simp only[BA]at u;subst u;exact⟨λz J=>(BB.1 J).elim ((M Y H).1 z) ((O X I).1 z),λz J=>(BB.1 J).elim ((M Y H).2 z) ((O X I).2 z)⟩
   ·cases u
  ·cases u
theorem tG {H:List Ty}{B:Ty}{f:FuncId}{ls:List Leaf}(h:∀ l∈ls,eL st st' [l]):ku Γ st' H B f ls=ku Γ st H B f ls/\∀ g,ku Γ st H B f ls=some g->nq st st' g:=by
 have u:=λ (q:List PK)=>kt (st:=st) (st':=st') (ga:=bf st) (ga':=bf st') q (ls.map λl=>(aI.one,[l])) (λy O Y=>by
  obtain⟨l,M,rfl⟩:=BL.1 O;exact eo (h l M))
 unfold ku;split
 ·rename_i c X;unfold rV;simp only[uB,(u _).1,true_and];intro g z;split at z
  ·cases J:(c.ps.drop H.length).all PK.reads&&B.flat&&c.fresh with
   |false=>simp[J]at z
   |true =>
    simp only[J,cond_true]at z;split at z
    ·rename_i g0 I;simp only[BA]at z;subst z;exact⟨((u _).2 g0 I).1,by simp⟩
    ·cases z
  ·cases z
 ·exact⟨rfl,by simp⟩
theorem wq {pk:PK}{x:aI×List Leaf}(h:eL st st' x.2):ce Γ st' pk x=ce Γ st pk x/\∀ g,ce Γ st pk x=some g->nq st st' g:=by
 cases pk with
 |fn O B =>
  simp only[ce];split
  ·rename_i z y;have H:(∃ u,cn x=.clo z.1 u/\z.2=u.map λb=>Leaf.bp b 0)\/∃ u,cn x=.clr z.1 u/\z.2=u.map eM:=by
    generalize cn x=l at y;cases l <;> simp only[vk,BA,reduceCtorEq]at y
    ·subst y;exact .inl ⟨_,rfl,rfl⟩
    ·subst y;exact .inr ⟨_,rfl,rfl⟩
   have J:=h.one;rcases H with ⟨u,H,I⟩|⟨u,H,I⟩
   ·rw[H]at J;rw[I];exact tG (pc J)
   ·rw[I];exact tG nu
  ·exact eo h
 |rd a=>exact eo (pk:=.rd a) h
 |own a=>exact eo (pk:=.own a) h
 |io a=>exact eo (pk:=.io a) h
 |rref a=>exact eo (pk:=.rref a) h
 |rref2 a=>exact eo (pk:=.rref2 a) h
 |iop a=>exact eo (pk:=.iop a) h
 |clo f M=>exact eo (pk:=.clo f M) h
 |hol a c off=>exact eo (pk:=.hol a c off) h
theorem tH:∀ (u ls:List Leaf),st' EPO=st EPO->(∀ q∈az u,st' q=st q)->ca st' u ls=ca st u ls
 |[],_,_,_=>by simp[ca]
 |x::u,[],_,_=>by cases x <;> simp[ca]
 |x::u,l::ls,z,h=>by
  have y:=tH u ls z (λq H=>h q (by rw[dw];exact BE _ H));cases x with
  |al r j v =>
   have I:st' r=st r:=h r (by simp[az]);simp only[ca,y,bi I,bi z]
  |_=>simp only[ca,y]
theorem qc {p:Bool}:∀ (ps:List PK) (xs:List (aI×List Leaf)) (y:ai ps),st' EPO=st EPO->(∀ x∈xs,∀ q∈az x.2,st' q=st q)->aG st' p ps xs y=aG st p ps xs y
 |[],_,_,_,_=>by simp[aG]
 |J::ps,[],y,_,h=>by cases J <;> simp[aG]
 |J::ps,x::xs,y,X,h=>by
  have u:=λ (y:ai ps)=>qc (p:=p) ps xs y X (λz Y=>h z (BF _ Y))
  have O:=h x (BG ..);cases J with
  |io a =>
   simp only[aG,u];rw[tH x.2 _ (bi X _) (λq H=>bi (O q H) _)]
  |iop a =>
   simp only[aG,u];have M:∀ q∈az [cn x],st' q=st q:=λq H=>O q (iX H)
   congr 1;split
   ·rename_i b v I;rw[I]at M;rw[bi (M b (by simp[az]))]
   ·rfl
  |_=>exact u _
theorem qd {n q:Nat}:∀ {ls:List Leaf} {k:Nat},q∈az (aT ls k (.al TMP 0 n))->q∈az ls\/q=TMP
 |[],_,h=>.inl h
 |l::ls,0,h=>by
  rw[show aT (l::ls) 0 (.al TMP 0 n)=.al TMP 0 n::ls from rfl,dw,BB]at h;rw[dw,BB];rcases h with h|h
  ·simp[az]at h;exact .inr h
  ·exact .inl (.inr h)
 |l::ls,k+1,h=>by
  rw[show aT (l::ls) (k+1) (.al TMP 0 n)=l::aT ls k (.al TMP 0 n) from rfl,dw,BB]at h;rw[dw,BB];rcases h with h|h
  ·exact .inl (.inl h)
  ·exact (qd h).imp .inr id
theorem pd {U:Upd}{X ls:List Leaf}(hT:st' TMP=st TMP)(u:∀ q,q≠TMP->∀ z∈az (ae U st q).ls,z∈az (st q).ls)(O:az (ae U st TMP).ls=[])(hx:eL st st' X)(y:∀ q∈az ls,q∈az X\/q=TMP) :
  eL (ae U st) (ae U st') ls:=by
 have I:∀ r z,z∈az (ae U st r).ls->r≠TMP:=λr z hz e=>by subst e;rw[O]at hz;simp at hz
 refine⟨λq H=>?_,λr Z q H=>?_,λr Z Y M q H=>?_⟩
 ·rcases y q H with h|h
  ·exact bi (hx.d1 q h) U
  ·subst h;exact bi hT U
 ·have J:=I r q H;exact bi (hx.d2 r ((y r Z).resolve_right J) q (u r J q H)) U
 ·have J:=I r Y M;have h2:=I Y q H;exact bi (hx.d3 r ((y r Z).resolve_right J) Y (u r J Y M) q (u Y h2 q H)) U
theorem oC (Y:st' TMP=st TMP)(hE:st' EPO=st EPO):∀ (ps:List PK) (xs:List (aI×List Leaf)),(∀ x∈xs,eL st st' x.2)->cX st' ps xs=cX st ps xs /\
  ∀ (U:Upd) (O:List (aI×List Leaf)) (b:Option (Bool×Nat×Nat)),cX st ps xs=some (U,O,b)->(∀ y∈O,eL (ae U st) (ae U st') y.2)/\(∀ f r j,b=some (f,r,j)->st' r=st r)/\∀ ls,eL st st' ls->eL (ae U st) (ae U st') ls
 |[],xs,h=>⟨rfl,λU O b z=>by
   simp only[cX,BA,BS]at z;obtain⟨rfl,rfl,rfl⟩:=z;exact⟨h,(λ_ _ _ h=>by cases h),λ_ h=>h⟩⟩
 |_::_,[],h=>⟨rfl,λU O b z=>by
   simp only[cX,BA,BS]at z;obtain⟨rfl,rfl,rfl⟩:=z;exact⟨h,(λ_ _ _ h=>by cases h),λ_ h=>h⟩⟩
 |p::ps,x::xs,h=>by
  have hx:=h x (BG ..);obtain⟨i1,i2⟩:=oC Y hE ps xs (λy M=>h y (BF _ M));simp only[cX];cases hk:p.nest x.2 with
  |none =>
   simp only[i1,true_and];intro U O b z;simp only[BI]at z;obtain⟨u,X,z⟩:=z;simp only[BS]at z;obtain⟨rfl,rfl,rfl⟩:=z;obtain⟨j1,j2,j3⟩:=i2 u.1 u.2.1 u.2.2 X;refine⟨λy M=>?_,j2,j3⟩;rcases BO.1 M with rfl|M
   ·exact j3 _ hx
   ·exact j1 y M
  |some k =>
   obtain⟨l,a0,Z⟩:=rr hk;have hg:x.2.getD k .dead=l:=by rw[BP,a0];rfl
   have a1:∀ q∈ax [l],st' q=st q:=λq J=>hx.d1 q (fD (qG a0 q J))
   simp only[hg,qb Y hE a1,true_and];intro U O b z;simp only[BI]at z;obtain⟨u,X,z⟩:=z;simp only[BS]at z;obtain⟨rfl,rfl,rfl⟩:=z;obtain⟨n,e1,H⟩:=oz (U:=u.1) (l':=u.2) X;have I:=uy (U:=u.1) (l':=u.2) X;refine⟨λy M=>?_,λf r j hb=>?_,λls a2=>pd Y H I a2 (λq J=>.inl J)⟩
   ·rcases BO.1 M with rfl|M
    ·refine pd Y H I hx λq J=>?_
     have J:q∈az (aT x.2 k u.2):=J;rw[e1]at J;exact qd J
    ·exact pd Y H I (h y (BF _ M)) (λq J=>.inl J)
   ·simp only[BA,BS]at hb;have hr:r=(j0 l).1:=by rw[hb.2]
    rw[hr];refine a1 _ ?_;cases l with
    |nal p ks ep a3 E e xs =>
     cases ks with
     |nil =>
      exfalso;simp only[cm]at X;cases hv:bk st [] ep <;> simp[hv]at X
     |cons k ks=>rw[it];simp[j0]
    |_=>simp[jj]at Z
theorem yY {b:Option (Bool×Nat×Nat)}{U:Upd}(u:st' TMP=st TMP)(z:st' EPO=st EPO)(y:∀ f r j,b=some (f,r,j)->st' r=st r):jN st' b U κ=jN st b U κ:=by
 unfold jN;split
 ·rename_i r j;rw[bi (y true r j rfl),bi u,bi z]
 ·rfl
theorem tI {d:Nat}{f:FuncId}{xs:List (aI×List Leaf)}(hT:st' TMP=st TMP)(X:st' EPO=st EPO)(hx:∀ x∈xs,eL st st' x.2)(hd:st' d=st d)(hB:st' (B0+d)=st (B0+d)):jk Γ st' d f xs κ=jk Γ st d f xs κ:=by
 unfold jk;split
 ·rename_i c hc;obtain⟨n1,n2⟩:=oC hT X c.ps xs hx;rw[gB,gB,n1];cases hn:cX st c.ps xs with
  |none=>rfl
  |some u =>
   obtain⟨H,M,b⟩:=u;obtain⟨m1,m2,_⟩:=n2 H M b hn;simp only[B6];have hg:=kt (st:=ae H st) (st':=ae H st') (ga:=ce Γ (ae H st)) (ga':=ce Γ (ae H st')) c.ps M (λx I pk=>wq (m1 x I));simp only[oH,hg.1];split
   ·rename_i g Y;obtain⟨h1,h2⟩:=hg.2 g Y;have J:gG st' d c.rs=gG st d c.rs:=by
     unfold gG;split
     ·rw[hB]
     ·rfl
    have hL:∀ q,ae H st' q=ae H st q->∀ U,ae (U++H) st' q=ae (U++H) st q:=λq h U=>by rw[bA,bA];exact bi h U
    have a1:(bif c.fresh then [] else aF (ae H st') g.frz)=(bif c.fresh then [] else aF (ae H st) g.frz):=by rw[kb h1]
    have hk:∀ (U:Upd),aN (ae U (ae H st')) g.kill=aN (ae U (ae H st)) g.kill:=λU=>iu (λz Z=>bi (h2 z Z) U)
    have ho:∀ (U:Upd) (p:Bool) (y:ai c.ps),aG (ae (U++H) st') p c.ps M y=aG (ae (U++H) st) p c.ps M y:=λU p y =>
     qc c.ps M y (hL _ (bi X H) U) (λx I q hq=>hL _ ((m1 x I).d1 q hq) U)
    have O:∀ (U:Upd),(g.frz.map λk=>(k.1,k.2,(ae (U++H) st' k.1).ver))=g.frz.map λk=>(k.1,k.2,(ae (U++H) st k.1).ver):=λU=>Ce λz Z=>by rw[hL _ (h1 z Z) U]
    have a0:∀ U,ae U st' d=ae U st d:=λU=>bi hd U
    have a3:∀ U,ae U st' (B0+d)=ae U st (B0+d):=λU=>bi hB U
    have a2:∀ U,ae U st' EPO=ae U st EPO:=λU=>bi X U
    simp only[J,a1,hk,ho,a0,a3,a2,<- Bv,O,yY hT X m2]
   ·rfl
 ·rfl
theorem rF:∀ (u:List Ty) (xs:List (aI×List Leaf)),(∀ x∈xs,∀ q∈ax x.2,st' q=st q)->iL st' u xs=iL st u xs
 |[],[],_=>rfl
 |[],_::_,_=>rfl
 |_::_,[],_=>rfl
 |a::u,x::xs,h=>by
  simp only[iL,eD (h x (BG ..)),rF u xs (λy z=>h y (BF _ z))]
theorem wt {r j i off n:Nat}{p:Bool}{E:TypeId}{e:Ty}{xs:List e.den}{h:Option (Nat×Nat)}{ls:List Leaf}(J:st' r=st r)(Z:st' EPO=st EPO)(H:∀ q∈ax ls,st' q=st q):gH st' r j i off n p E e xs h ls κ=gH st r j i off n p E e xs h ls κ:=by
 unfold gH;congr 1;funext u;rw[pa e 0 u ls H];split
 ·rename_i t X;obtain⟨I,O⟩:=pb e 0 u ls t X;have Y:aF st' t.frz=aF st t.frz:=kb (λz y=>H _ (I z y));have M:∀ U:Upd,aN (ae U st') t.kill=aN (ae U st) t.kill:=λU=>iu (λz y=>bi (H _ (O z y)) U)
  simp only[Y,M,J,bi Z]
 ·rfl
end
section
variable {P:Program} {V:Env} {Γ:List Ctr} {T:TypeId->TI} {st st':St} {o:Oper} {R:Type} {κ:Upd->Option R} {r:R}
theorem dx {z:List Nat}(h:∀ q∈z++z.flatMap (λt=>ax (st t).ls),st' q=st q){x:Operand}(H:∀ t,x=.tmp t->t∈z):(∀ t,x=.tmp t->st' t=st t)/\∀ q∈ax (av st x).2,st' q=st q:=by
 refine⟨λt y=>h t (BD _ (H t y)),λq u=>?_⟩;obtain⟨t,y,u⟩:=rA u;rcases u with rfl|u
 ·exact h q (BD _ (H q y))
 ·exact h q (BE _ (BT.2 ⟨t,H t y,u⟩))
theorem nv {z:List Nat}(h:∀ q∈z++z.flatMap (λt=>az (st t).ls),st' q=st q){x:Operand}(H:∀ t,x=.tmp t->t∈z):(∀ t,x=.tmp t->st' t=st t)/\∀ q∈az (av st x).2,st' q=st q:=by
 refine⟨λt y=>h t (BD _ (H t y)),λq u=>?_⟩;obtain⟨t,y,u⟩:=rB u;rcases u with rfl|u
 ·exact h q (BD _ (H q y))
 ·exact h q (BE _ (BT.2 ⟨t,H t y,u⟩))
theorem qe {y:List Nat}(h:∀ q∈kw st y,st' q=st q){x:Operand}(hx:∀ t,x=.tmp t->t∈y):eL st st' (av st x).2:=by
 have J:∀ q,q∈y->st' q=st q:=λq u=>h q (by simp[kw];exact .inl u)
 have Y:∀ q,q∈y.flatMap (λt=>az (st t).ls)->st' q=st q:=λq u=>h q (by
  unfold kw;exact BD _ (BD _ (BE _ u)))
 have X:∀ q,q∈(y.flatMap (λt=>az (st t).ls)).flatMap (λt=>az (st t).ls)->st' q=st q:=λq u=>h q (by
  unfold kw;exact BD _ (BE _ u))
 have hc:∀ q,q∈((y.flatMap (λt=>az (st t).ls)).flatMap (λt=>az (st t).ls)).flatMap (λt=>az (st t).ls)->st' q=st q:=λq u=>h q (by
  unfold kw;exact BE _ u)
 have Z:∀ r∈az (av st x).2,r∈y\/r∈y.flatMap (λt=>az (st t).ls):=by
  intro r z;obtain⟨t,ht,u⟩:=rB z;rcases u with rfl|u
  ·exact .inl (hx r ht)
  ·exact .inr (BT.2 ⟨t,hx t ht,u⟩)
 have O:∀ r∈az (av st x).2,∀ q∈az (st r).ls,q∈y.flatMap (λt=>az (st t).ls)\/q∈(y.flatMap (λt=>az (st t).ls)).flatMap (λt=>az (st t).ls):=by
  intro r z q u;rcases Z r z with H|H
  ·exact .inl (BT.2 ⟨r,H,u⟩)
  ·exact .inr (BT.2 ⟨r,H,u⟩)
 refine⟨λq u=>(Z q u).elim (J q) (Y q),λr z q u=>(O r z q u).elim (Y q) (X q),λr z M I q u=>?_⟩;rcases O r z M I with H|H
 ·exact X q (BT.2 ⟨M,H,u⟩)
 ·exact hc q (BT.2 ⟨M,H,u⟩)
theorem be {xs:Array Operand}{x:Operand}(h:x∈xs):∀ t,x=.tmp t->t∈iz xs.toList:=λt e=>rz (by rw[<- e];simpa using h)
theorem op_fr (h:∀ q∈fh st o,st' q=st q)(z:∀ x,o.op≠.move x)(H:∀ t x i,o.op≠.indexAddr t x i):∀ q∈co st o.op,st' q=st q:=λq y=>h q (by
 unfold fh;refine BD _ ?_;cases u:o.op with
 |move x=>exact absurd u (z x)
 |indexAddr t x i=>exact absurd u (H t x i)
 |_=>rw[u]at y;exact y)
theorem Am {α β:Type}{xs:List α}{n:Int}{K:Option β}:((idx xs n).bind λ_=>K)=if 0<=n/\n<xs.length then K else none:=by
 unfold idx;by_cases u:n<0
 ·rw[if_pos u,if_neg (by omega)];rfl
 ·rw[if_neg u];by_cases y:n.toNat<xs.length
  ·rw[BR y,if_pos (by omega)];rfl
  ·rw[CY (by omega),if_neg (by omega)];rfl
theorem Bg (h:∀ q∈fh st o,st' q=st q)(hh:∀ q∈eS st o.op,bJ (st' q)=bJ (st q)):act Γ T o st' κ=act Γ T o st κ:=by
 have M:=op_fr h;have a0:∀ (U:Upd) (d:Nat) (sh:aI) (ls:List Leaf),o.dst=some d->cl st' U d sh ls=cl st U d sh ls:=λU d sh ls hd=>u7 (tF hd h).1
 have hB:∀ d,o.dst=some d->st' (B0+d)=st (B0+d):=λd hd=>(tF hd h).2
 have hw:∀ (sh:aI) (ls:List Leaf),wrU o st' κ sh ls=wrU o st κ sh ls:=by
  intro sh ls;unfold wrU;split
  ·rename_i d hd;rw[a0 _ _ _ _ hd]
  ·rfl
 cases I:o.op with
 |move x =>
  simp only[I,eS]at hh;have e:av st' x=av st x:=xO λt Y=>hh t (be (by simp[Op.operands]) t Y)
  simp only[act,I,e,hw]
 |assign x =>
  have H:=M (by simp[I]) (by simp[I]);simp only[I,co]at H;have J:=dx H (x:=x) (be (by simp[Op.operands]));have e:av st' x=av st x:=dS J.1;simp only[act,I,e,qI J.2,o9 J.2,tC J.2];split
  ·rename_i d hd;rw[a0 _ _ _ _ hd]
  ·rfl
 |pick c x y =>
  have H:=M (by simp[I]) (by simp[I]);simp only[I,co]at H;have e1:one st' c=one st c:=dE λt Y=>H t (be (by simp[Op.operands]) t Y)
  have e2:av st' x=av st x:=dS λt Y=>H t (be (by simp[Op.operands]) t Y)
  have e3:av st' y=av st y:=dS λt Y=>H t (be (by simp[Op.operands]) t Y)
  simp only[act,I,e1,e2,e3,hw]
 |alloc t =>
  simp only[act,I];split
  ·rename_i d hd;rw[a0 _ _ _ _ hd,hB d hd]
  ·rfl
 |box t x =>
  have H:=M (by simp[I]) (by simp[I]);simp only[I,co]at H;have J:=dx H (x:=x) (be (by simp[Op.operands]));have e:av st' x=av st x:=dS J.1;have ad:sg st' x=sg st x:=by cases x <;> first|rfl|(simp only[sg];rw[J.1 _ rfl])
  simp only[act,I,e,qI J.2,o9 J.2,tC J.2,ad];split
  ·rename_i d hd;simp only[a0 _ _ _ _ hd,hB d hd,bi (hB d hd)]
  ·rfl
 |build t a2 =>
  have H:=M (by simp[I]) (by simp[I]);simp only[I,co]at H;have hb:∀ a6 ls,fg st' a6 a2.toList ls=fg st a6 a2.toList ls:=λa6 ls=>qa _ _ (λx J t Y=>H t (be (by simp only[Op.operands,Cq,BL];exact⟨x,J,rfl⟩) t Y))
  simp only[act,I,hw,hb]
 |buildSlice t n a2 =>
  have H:=M (by simp[I]) (by simp[I]);simp only[I,co]at H;have J:∀ x∈a2.toList,(∀ t,x.2=.tmp t->st' t=st t)/\∀ q∈ax (av st x.2).2,st' q=st q:=λx J =>
   dx H (be (by simp only[Op.operands,Cq,BL];exact⟨x,J,rfl⟩))
  simp only[act,I];split
  ·rw[ox _ _ J];split
   ·rename_i u bb;have c1:=oy _ _ _ bb;have b2:∀ z,z∈u.frz\/z∈u.kill->st' z.1=st z.1:=λz hz=>by
     obtain⟨x,ba,b6⟩:=c1 z hz;exact (J x ba).2 _ b6
    have e1:aF st' u.frz=aF st u.frz:=kb λz hz=>b2 z (.inl hz)
    have e2:∀ U:Upd,aN (ae U st') u.kill=aN (ae U st) u.kill:=λU=>iu (λz hz=>bi (b2 z (.inr hz)) U)
    simp only[e1,e2];congr 1;split
    ·rename_i d hd;rw[a0 _ _ _ _ hd]
    ·rfl
   ·rfl
  ·rfl
 |load t x =>
  have H:=M (by simp[I]) (by simp[I]);simp only[I,co]at H;have J:=nv H (x:=x) (be (by simp[Op.operands]));have e:one st' x=one st x:=dE J.1;have X:∀ q∈az [one st x],st' q=st q:=λq O=>J.2 q (tD O)
  simp only[act,I,e,hw];congr 1;split
  ·rfl
  ·rename_i b off Z;rw[Z]at X;rw[X b (by simp[az])]
  ·rfl
  ·rename_i p ks ep a y off Z;rw[Z]at X;rw[jB (λq O=>X q (by simpa[az]using O))]
  ·rename_i r j v i sz off Z;rw[Z]at X;rw[ck (l:=.al r j v) (λq O=>X q (by simp[ax]at O;simp[az,O])),X EPO (by simp[az])]
  ·rfl
 |store t x y =>
  have H:=M (by simp[I]) (by simp[I]);simp only[I,co]at H;have J:=nv H (x:=x) (be (by simp[Op.operands]));have hy:=nv H (x:=y) (be (by simp[Op.operands]));have e:one st' x=one st x:=dE J.1;have e2:av st' y=av st y:=dS hy.1;have X:∀ q∈az [one st x],st' q=st q:=λq O=>J.2 q (tD O)
  have a9:∀ q∈ax (av st y).2,st' q=st q:=λq O=>hy.2 q (fD O)
  simp only[act,I,e,e2,qI a9,o9 a9,tC a9];split
  ·rfl
  ·congr 1;split
   ·rename_i b off Z;rw[Z]at X;have hb:=X b (by simp[az]);simp only[hb,bi hb]
   ·rename_i r j v i sz off Z;rw[Z]at X;have bx:=X r (by simp[az]);rw[ck (l:=.al r j v) (λq O=>X q (by simp[ax]at O;simp[az,O]))];split
    ·rw[wt bx (X EPO (by simp[az])) a9]
    ·rfl
   ·rfl
 |nilCheck x =>
  have H:=M (by simp[I]) (by simp[I]);simp only[I,co]at H;have J:=dx H (x:=x) (be (by simp[Op.operands]));have e:one st' x=one st x:=dE J.1;have X:∀ q∈ax [one st x],st' q=st q:=λq O=>J.2 q (jg O)
  simp only[act,I,e,hw];split
  ·rfl
  ·rfl
  ·rename_i r j v i sz off Z;rw[Z]at X;rw[X r (by simp[ax])]
  ·rfl
  ·rename_i p ks ep a y off Z;rw[Z,u6]at X;rw[jB X]
  ·rfl
 |binOp op t x y t' =>
  have H:=M (by simp[I]) (by simp[I]);simp only[I,co]at H;have J:=dx H (x:=x) (be (by simp[Op.operands]));have hy:=dx H (x:=y) (be (by simp[Op.operands]));have e1:one st' x=one st x:=dE J.1;have e2:one st' y=one st y:=dE hy.1;have e3:av st' x=av st x:=dS J.1;have e4:av st' y=av st y:=dS hy.1;simp only[act,I,e1,e2,e3,e4,hw,eD J.2,eD hy.2]
 |unOp op t x =>
  have H:=M (by simp[I]) (by simp[I]);simp only[I,co]at H;have e1:one st' x=one st x:=dE λt Y=>H t (be (by simp[Op.operands]) t Y)
  simp only[act,I,e1,hw]
 |convert s t x =>
  have H:=M (by simp[I]) (by simp[I]);simp only[I,co]at H;have J:=dx H (x:=x) (be (by simp[Op.operands]));have e1:one st' x=one st x:=dE J.1;have X:∀ q∈ax [one st x],st' q=st q:=λq O=>J.2 q (jg O)
  simp only[act,I,e1,hw];split
  ·rfl
  ·rw[ck X]
  ·rfl
  ·rfl
 |makeSlice t n c =>
  have H:=M (by simp[I]) (by simp[I]);simp only[I,co]at H;have e1:one st' n=one st n:=dE λt Y=>H t (be (by simp[Op.operands]) t Y)
  have e2:one st' c=one st c:=dE λt Y=>H t (be (by simp[Op.operands]) t Y)
  simp only[act,I,e1,e2,hw]
 |slice t x lo hi mx =>
  have H:=M (by simp[I]) (by simp[I]);simp only[I,co]at H;have hE:=H EPO (BG ..);have H:=λq O=>H q (BF _ O)
  have J:=dx H (x:=x) (be (by simp[Op.operands]));have bl:∀ n,di st' lo n=di st lo n:=λn=>nn λy hy t Y=>H t (BD _ (be (by simp[Op.operands,hy]) t Y))
  have bn:∀ n,di st' hi n=di st hi n:=λn=>nn λy hy t Y=>H t (BD _ (be (by simp[Op.operands,hy]) t Y))
  have e:one st' x=one st x:=dE J.1;have X:∀ q∈ax [one st x],st' q=st q:=λq O=>J.2 q (jg O)
  have b9:∀ m,mx=some m->di st' (some m) 0=di st (some m) 0:=λm hm=>nn λy hy t Y=>H t (BD _ (be (by simp[Op.operands,hm,Cv hy]) t Y))
  simp only[act,I,e,bl,bn,ck X,hE];cases hd:o.dst with
  |none=>cases mx <;> rfl
  |some d =>
   cases mx with
   |none=>simp only[a0 _ _ _ _ hd]
   |some m =>
    simp only[b9 m rfl];split
    ·rename_i r j v _ Z _;rw[Z]at X;rw[ck X,iu (st:=st) (st':=st') (λz hz=>by simp at hz;subst hz;exact X _ (by simp[ax]))];simp only[a0 _ _ _ _ hd]
    ·rfl
 |fieldAddr t x f =>
  have H:=M (by simp[I]) (by simp[I]);simp only[I,co]at H;have J:=dx H (x:=x) (be (by simp[Op.operands]));have e:one st' x=one st x:=dE J.1;have X:∀ q∈ax [one st x],st' q=st q:=λq O=>J.2 q (jg O)
  simp only[act,I,e,hw];split
  ·split
   ·split
    ·rfl
    ·rfl
    ·rename_i r j v i sz off Z;rw[Z]at X;rw[X r (by simp[ax])]
    ·rename_i p ks ep a y o' Z;rw[Z,u6]at X;rw[jB X]
    ·rfl
   ·rfl
  ·rfl
 |field t x f =>
  have H:=M (by simp[I]) (by simp[I]);simp only[I,co]at H;have e1:av st' x=av st x:=dS λt Y=>H t (be (by simp[Op.operands]) t Y)
  simp only[act,I,e1,hw]
 |indexAddr t x i =>
  simp only[I,eS]at hh;have b4:∀ y∈(Op.indexAddr t x i).operands,∀ t,y=.tmp t->bJ (st' t)=bJ (st t):=λy hy t Y=>hh t (BD _ (be hy t Y))
  have e:one st' x=one st x:=zr (b4 x (by simp[Op.operands]));have e2:one st' i=one st i:=zr (b4 i (by simp[Op.operands]));have X:∀ q∈ax [one st x],bJ (st' q)=bJ (st q):=λq O=>by
   obtain⟨t',c0,O⟩:=rA (jg O);have a5:=be (xs:=(Op.indexAddr t x i).operands) (x:=x) (by simp[Op.operands]) t' c0;rcases O with rfl|O
   ·exact hh q (BD _ a5)
   ·exact hh q (BE _ (BT.2 ⟨t',a5,O⟩))
  simp only[act,I,e,e2,hw];split
  ·split
   ·rfl
   ·split
    ·rename_i r j v Z;rw[Z]at X;have O:=X r (by simp[ax]);have hv:(st' r).ver=(st r).ver:=by simp only[bJ,BS]at O;exact O.1
     simp only[aE,hv];cases BJ (st r).ver v with
     |false=>rfl
     |true =>
      simp only[cond_true];rcases tE (xP O j) with e3|⟨p,p',h1,h2,E1,E2,e',c4,xs,c3,e3,e4,e5,e6⟩
      ·rw[e3]
      ·rw[e3,e4];simp only[pm,e5,Am,e6]
    ·rfl
    ·rename_i p ks ep c2 E' e' xs Z;rw[Z,it]at X;rw[yX X]
    ·rfl
   ·rfl
  ·rfl
 |index t x i =>
  have H:=M (by simp[I]) (by simp[I]);simp only[I,co]at H;have J:=dx H (x:=x) (be (by simp[Op.operands]));have e1:one st' x=one st x:=dE J.1;have e2:one st' i=one st i:=dE (dx H (x:=i) (be (by simp[Op.operands]))).1;have e3:av st' x=av st x:=dS J.1;simp only[act,I,e1,e2,e3,hw,λe n=>nk (e:=e) n _ J.2]
 |extract x i =>
  have H:=M (by simp[I]) (by simp[I]);simp only[I,co]at H;have e1:av st' x=av st x:=dS λt Y=>H t (be (by simp[Op.operands]) t Y)
  simp only[act,I,e1,hw]
 |makeFunc fn first a3 =>
  have H:=M (by simp[I]) (by simp[I]);simp only[I,co]at H;cases fn with
  |func f =>
   have:sj st' a3.toList=sj st a3.toList:=u9 (st:=st) (st':=st') a3.toList (some []) (λx J t Y=>H t (be (by simp[Op.operands];exact .inr (by simpa using J)) t Y));simp only[act,I,hw,this]
  |_=>simp only[act,I]
 |call c =>
  have H:=M (by simp[I]) (by simp[I]);simp only[I,co]at H;simp only[act,I];split
  ·rfl
  ·rename_i d hd;obtain⟨b0,b3⟩:=tF hd h;cases hc:c.callee with
   |value f =>
    simp only[hc]at H;have hT:=H TMP (BG ..);have hE:=H EPO (BF _ (BG ..));have H:=λq O=>H q (BF _ (BF _ O))
    have b1:f∈(Op.call c).operands:=by simp[Op.operands,Call.operands,hc]
    have ab:∀ x∈c.args.toList,x∈(Op.call c).operands:=λx J=>by
     simp only[Op.operands,Call.operands,hc,Cr];exact .inr (by simpa using J)
    have a5:∀ x∈(Op.call c).operands,∀ t,x=.tmp t->st' t=st t:=λx J t Y=>H t (by
     unfold kw;exact BD _ (BD _ (BD _ (be J t Y))))
    have e1:one st' f=one st f:=dE (a5 f b1);have e2:c.args.toList.map (av st')=c.args.toList.map (av st):=Ce λx J=>dS (a5 x (ab x J))
    have a4:∀ x∈c.args.toList.map (av st),eL st st' x.2:=by
     intro x J;obtain⟨y,hy,rfl⟩:=BL.1 J;exact qe H (be (ab y hy))
    simp only[e1,e2];split
    ·rename_i g a3 Z;refine tI hT hE ?_ b0 b3;intro x J;rcases BB.1 J with J|J
     ·exact a4 x J
     ·obtain⟨b,hb,rfl⟩:=BL.1 J;have hf:=qe H (be b1);rw[qJ Z (by simp)]at hf;exact pc hf _ (BL.2 ⟨b,hb,rfl⟩)
    ·rename_i g a3 Z;refine tI hT hE ?_ b0 b3;intro x J;rcases BB.1 J with J|J
     ·exact a4 x J
     ·obtain⟨cp,b5,rfl⟩:=BL.1 J;exact nu _ (BL.2 ⟨cp,b5,rfl⟩)
    ·rename_i As B φ Z;rw[rF As _ (λx J q O=>(a4 x J).d1 q (fD O))];simp only[hw]
    ·rfl
   |builtin b =>
    simp only[hc]at H;have hT:=H TMP (BG ..);have H:=λq O=>H q (BF _ O)
    have ab:∀ x∈c.args.toList,x∈(Op.call c).operands:=λx J=>by
     simp only[Op.operands,Call.operands,hc,Cr];exact .inr (by simpa using J)
    have J:∀ x∈c.args.toList,one st' x=one st x/\∀ q∈ax [one st x],st' q=st q:=λx J=>by
     have:=dx H (be (ab x J));exact⟨dE this.1,λq O=>this.2 q (jg O)⟩
    cases b with
    |len =>
     dsimp only;split
     ·rename_i x a1;have h1:=J x (by rw[a1];simp);simp only[h1.1,ck h1.2,hw]
     ·rfl
    |append =>
     dsimp only;split
     ·rename_i x y t u a1 _;have h1:=J x (by rw[a1];simp);have h2:=J y (by rw[a1];simp);split
      ·rw[h1.1,h2.1,wo hT h1.2 h2.2 b0]
      ·rfl
     ·rfl
    |min =>
     dsimp only;split
     ·rename_i x y a1;rw[(J x (by rw[a1];simp)).1,(J y (by rw[a1];simp)).1];simp only[hw]
     ·rfl
    |max =>
     dsimp only;split
     ·rename_i x y a1;rw[(J x (by rw[a1];simp)).1,(J y (by rw[a1];simp)).1];simp only[hw]
     ·rfl
    |_=>rfl
   |invoke x n=>rfl
 |_=>simp only[act,I]
end
section
variable {P:Program} {V:Env} {Γ:List Ctr} {T:TypeId->TI} {st st':St} {o:Oper} {R:Type} {all:Array Oper}
def mq (Γ:List Ctr)(T:TypeId->TI)(all:Array Oper)(o:Oper)(st:St)(U:Upd):Prop :=
 match o.guard with
 |none=>act Γ T o st some=some U
 |some (j,r)=>∃ t,(all[j]?).bind (·.dst)=some t /\
  ((∃ b,(st t).sh=.one/\(st t).ls=[.bool b]/\((b=r/\act Γ T o st some=some U)\/(b≠r/\U=eF st o)))\/((st t).sh=.und/\U=eF st o))
def jC (Γ:List Ctr)(T:TypeId->TI)(all:Array Oper)(o:Oper)(st:St)(U:Upd)(t:cM):Prop :=
 ((∀ q∈U.map (·.1),q∈t.wr\/q∈t.cw)/\(∀ q∈t.wr,q∈U.map (·.1))/\∀ q,q∈U.map (·.1)->q∉t.wr->bJ (ae U st q)=bJ (st q))/\match o.guard with
 |none=>act Γ T o st some=some U/\(∀ q∈fh st o,q∈t.rd)/\∀ q∈eS st o.op,q∈t.hd
 |some (j,r)=>∃ s,(all[j]?).bind (·.dst)=some s/\s∈t.rd /\
  ((∃ b,(st s).sh=.one/\(st s).ls=[.bool b]/\((b=r/\act Γ T o st some=some U/\(∀ q∈fh st o,q∈t.rd)/\∀ q∈eS st o.op,q∈t.hd)\/(b≠r/\U=eF st o/\∀ d,o.dst=some d->d∈t.wr))) \/
   ((st s).sh=.und/\U=eF st o/\∀ d,o.dst=some d->d∈t.wr))
theorem tJ {α:Type}:∀ {l:List α} {j:Nat} {x:α},l[j]?=some x->l.set j x=l
 |[],_,_,h=>by simp at h
 |y::l,0,x,h=>by simp at h;subst h;rfl
 |y::l,j+1,x,h=>by rw[Ck,tJ (by simpa using h)]
theorem An {U:Upd}(h:act Γ T o st some=some U):∀ q∈d4 st o,bJ (ae U st q)=bJ (st q):=by
  intro q z;unfold d4 at z;split at z
  · rename_i t x y J
    split at z
    · rename_i r j a1 i sz off hx
      simp only[By]at z;subst z;simp only[act,wrU,J]at h;split at h
      · cases h
      · cases O:BJ (av st y).2.length (T t).cells&&decide ((av st y).1=bg (T t).agg)&&!decide ((T t).cells=0) with
        |false=>simp[O]at h
        |true =>
          simp only[O,cond_true,hx]at h;split at h
          · rename_i p hh E e xs hd
            cases M:BJ sz e.cells&&decide (off+(av st y).2.length<=e.cells)&&rW q with
            |false=>simp[M]at h
            |true =>
              simp only[M,cond_true]at h;obtain⟨_,hl⟩:=eY hd (by simp);have u:∀ (p':Bool) (I:Option (Nat×Nat)) (v:e.den) (X:Upd),bJ (ae ((q,⟨(st q).ver,(st q).sh,aT (st q).ls j (.own p' I E e (xs.set i v))⟩)::X) st q)=bJ (st q):=by
                intro p' I v X;rw[aP,bh];simp only[bJ,aT];rw[List.map_set,tJ];rw[Cn,hl];simp[jo]
              unfold gH at h;obtain⟨a0,_,h⟩:=Bw.1 h;split at h
              · rename_i t _
                cases H:t.rest.isEmpty&&aY t.kill&&dD t.frz t.kill&&!((t.kill++t.frz).any λk=>BJ k.1 q) with
                |false=>rw[H]at h;cases h
                |true =>
                  simp only[H,cond_true]at h;cases hh with
                  |none =>
                    simp only[BA]at h;rw[<- h];exact u _ _ _ _
                  |some hp =>
                    obtain⟨hi,Y⟩:=hp;simp only at h;cases h1:Cd off Y&&CW Y (off+(av st y).2.length) with
                    |false =>
                      rw[h1]at h;simp only[cond_false,BA]at h;rw[<- h];exact u _ _ _ _
                    |true =>
                      rw[h1]at h;simp only[cond_true]at h;cases Z:BJ i hi with
                      |false=>rw[Z]at h;cases h
                      |true =>
                        rw[Z]at h;simp only[cond_true,BA]at h;rw[<- h];exact u _ _ _ _
              · cases h
          · cases h
    · simp at z
  · simp at z
theorem pe {t:Nat}{b:Bool}(u:(st t).sh=.one)(r:(st t).ls=[.bool b]):lit st t b=st:=by
 funext q;unfold lit;rcases an t q ⟨(st t).ver,.one,[.bool b]⟩ st with ⟨rfl,e⟩|⟨_,e⟩
 ·rw[e,<- u,<- r]
 ·exact e
theorem wu {U:Upd}(h:act Γ T o st some=some U):(∀ q∈U.map (·.1),q∈(U.map (·.1)).filter (λq=>!((d4 st o).any (BJ q)))\/q∈d4 st o)/\(∀ q∈(U.map (·.1)).filter (λq=>!((d4 st o).any (BJ q))),q∈U.map (·.1)) /\
  ∀ q,q∈U.map (·.1)->q∉(U.map (·.1)).filter (λq=>!((d4 st o).any (BJ q)))->bJ (ae U st q)=bJ (st q):=by
 have r:∀ q,(d4 st o).any (BJ q)=true->q∈d4 st o:=λq u=>by
  obtain⟨x,I,H⟩:=CH.1 u;rw[BH H];exact I
 refine⟨λq u=>?_,λq u=>(CC.1 u).1,λq u z=>?_⟩
 ·cases y:(d4 st o).any (BJ q) with
  |true=>exact .inr (r q y)
  |false=>exact .inl (CC.2 ⟨u,by rw[y];rfl⟩)
 ·refine An h q (r q ?_);cases y:(d4 st o).any (BJ q) with
  |true=>rfl
  |false=>exact absurd (CC.2 ⟨u,by rw[y];rfl⟩) z
theorem Ao {κ:St->cM->Option R}{r:R}(h:opK Γ T all o st κ=some r):∃ U t,jC Γ T all o st U t/\κ (ae U st) t=some r:=by
 have X:∀ (J:List Nat),act Γ T o st (λU=>κ (ae U st) ⟨J++fh st o,eS st o.op,(U.map (·.1)).filter (λq=>!((d4 st o).any (BJ q))),d4 st o⟩)=some r ->
   ∃ U,act Γ T o st some=some U/\κ (ae U st) ⟨J++fh st o,eS st o.op,(U.map (·.1)).filter (λq=>!((d4 st o).any (BJ q))),d4 st o⟩=some r:=by
  intro J h;rw[tB]at h;obtain⟨U,M,Y⟩:=Bw.1 h;exact⟨U,M,Y⟩
 have y:((∀ q∈(eF st o).map (·.1),q∈o.dst.toList\/q∈([]:List Nat))/\(∀ q∈o.dst.toList,q∈(eF st o).map (·.1))/\∀ q,q∈(eF st o).map (·.1)->q∉o.dst.toList->bJ (ae (eF st o) st q)=bJ (st q)):=by
  unfold eF;cases o.dst with
  |none=>simp
  |some d=>simp
 unfold opK at h;unfold jC;cases hg:o.guard with
 |none =>
  simp only[hg]at h;obtain⟨U,M,Y⟩:=X [] h;exact⟨U,_,⟨wu M,M,λq H=>by simpa using H,λq H=>H⟩,Y⟩
 |some jw =>
  obtain⟨j,O⟩:=jw;simp only[hg]at h;split at h
  ·rename_i t Z;have I:∀ d,o.dst=some d->d∈o.dst.toList:=λd hd=>by simp[hd]
   split at h
   ·rename_i b u z;have hl:∀ b',b'=b->lit st t b'=st:=λb' e=>pe u (by rw[z,e])
    cases b with
    |true =>
     simp only[cond_true,hl true rfl]at h;cases O with
     |true =>
      simp only[cond_true]at h;obtain⟨U,M,Y⟩:=X [t] h;exact⟨U,_,⟨wu M,t,Z,by simp,.inl ⟨true,u,z,.inl ⟨rfl,M,λq H=>BE _ H,λq H=>H⟩⟩⟩,Y⟩
     |false =>
      simp only[cond_false]at h;exact⟨eF st o,_,⟨y,t,Z,by simp,.inl ⟨true,u,z,.inr ⟨by simp,rfl,I⟩⟩⟩,h⟩
    |false =>
     simp only[cond_false,hl false rfl]at h;cases O with
     |true =>
      simp only[cond_true]at h;exact⟨eF st o,_,⟨y,t,Z,by simp,.inl ⟨false,u,z,.inr ⟨by simp,rfl,I⟩⟩⟩,h⟩
     |false =>
      simp only[cond_false]at h;obtain⟨U,M,Y⟩:=X [t] h;exact⟨U,_,⟨wu M,t,Z,by simp,.inl ⟨false,u,z,.inl ⟨rfl,M,λq H=>BE _ H,λq H=>H⟩⟩⟩,Y⟩
   ·rename_i u;exact⟨eF st o,_,⟨y,t,Z,by simp,.inr ⟨u,rfl,I⟩⟩,h⟩
   ·cases h
  ·cases h
theorem va {U:Upd}(e:U=eF st o)(u:∀ d,o.dst=some d->st' d=st d):U=eF st' o:=by
 rw[e];unfold eF;cases r:o.dst with
 |none=>rfl
 |some d=>simp only[u d r]
theorem jC.frame {U:Upd}{t:cM}(h:jC Γ T all o st U t)(u:∀ q,q∈t.rd\/q∈t.wr->st' q=st q)(hh:∀ q∈t.hd,bJ (st' q)=bJ (st q)):mq Γ T all o st' U:=by
 obtain⟨_,h⟩:=h;have r:act Γ T o st some=some U->(∀ q∈fh st o,q∈t.rd)->(∀ q∈eS st o.op,q∈t.hd)->act Γ T o st' some=some U:=by
  intro O M Z;rw[Bg (λq J=>u q (.inl (M q J))) (λq J=>hh q (Z q J))];exact O
 unfold mq;cases hg:o.guard with
 |none =>
  rw[hg]at h;exact r h.1 h.2.1 h.2.2
 |some jw =>
  obtain⟨j,a0⟩:=jw;rw[hg]at h;obtain⟨s,O,M,Z⟩:=h;have H:=u s (.inl M);refine⟨s,O,?_⟩;rw[H];rcases Z with ⟨b,X,h5,h6⟩|⟨X,h5,h6⟩
  ·refine .inl ⟨b,X,h5,?_⟩;rcases h6 with ⟨h7,I,y,z⟩|⟨h7,I,y⟩
   ·exact .inl ⟨h7,r I y z⟩
   ·exact .inr ⟨h7,va I (λd Y=>u d (.inr (y d Y)))⟩
  ·exact .inr ⟨X,va h5 (λd Y=>u d (.inr (h6 d Y)))⟩
theorem wv (hV:ay V)(hT:TOk P T)(hΓ:∀ c∈Γ,bP P c){ops:Array Oper}{i:Nat}(hi:ops[i]?=some o)(M:bN V o)(H:∀ j u,o.guard=some (j,u)->∀ s,(ops[j]?).bind (·.dst)=some s->s<V.nt)
  {U:Upd} (h:mq Γ T ops o st U) {a:Act} {w:World} (z:Rel P V st a w) {K:Act->World->Prop} {Q:Exit->Act->World->Prop} (hK:∀ a' w',Rel P V (ae U st) a' w'->K a' w'):wpOp P ops Q i K a w:=by
 obtain⟨W,z⟩:=z;unfold wpOp;simp only[hi];have Y:act Γ T o st some=some U->o.wp P a w K Q:=by
  intro Z;obtain⟨U',h2,h3⟩:=Bf hV hT hΓ M Z;cases h2;exact h3 W a w z K Q hK
 have y:U=eF st o->K (a.put o.dst undef) w:=by
  intro e;refine hK _ _ ?_;subst e;unfold eF;cases hd:o.dst with
  |none=>exact⟨W,z⟩
  |some d=>exact z.putLs hV d (M d hd).1 (M d hd).2 _ .und [] undef [] (CA _) ⟨rfl,rfl⟩ trivial
 unfold mq at h;cases O:o.guard with
 |none =>
  rw[O]at h;have J:Region.wanted o (yielded ops a.tmps)=true:=by simp[Region.wanted,O]
  rw[if_pos J];exact .inl (Y h)
 |some jw =>
  obtain⟨j,u⟩:=jw;rw[O]at h;obtain⟨s,Z,h2⟩:=h;have X:=H j u O s Z;have a2:s<GH:=Cl X hV.nt;have r:=z.slots s a2;have a1:s<a.tmps.size:=by rw[z.nt];exact X
  have I:a.tmps[s]?=some (a.tmps.getD s undef):=by
   rw[BN,BM a1];rfl
  rcases h2 with ⟨b,h3,h4,h5⟩|⟨h3,h5⟩
  ·have a0:=z.len s;rw[h4]at a0;rw[h3]at r;have r:W.cs s=[a.tmps.getD s undef]:=r;have hv:=z.leaf s 0 (.bool b) (a.tmps.getD s undef) (by rw[h4];rfl) (by rw[r];rfl);have hv:a.tmps.getD s undef=.bool b:=hv;have hy:yielded ops a.tmps j=some b:=by simp[yielded,Z,I,hv]
   rcases h5 with ⟨rfl,h6⟩|⟨h6,h7⟩
   ·have J:Region.wanted o (yielded ops a.tmps)=true:=by simp[Region.wanted,O,hy]
    rw[if_pos J];exact .inl (Y h6)
   ·have J:Region.wanted o (yielded ops a.tmps)=false:=by
     simp only[Region.wanted,O,hy];cases b <;> cases u <;> simp at h6 <;> rfl
    rw[J];exact y h7
  ·rw[h3]at r;obtain⟨hv,_⟩:=r;have hy:yielded ops a.tmps j=none:=by
    unfold yielded;rw[Z,B6,I,hv];rfl
   have J:Region.wanted o (yielded ops a.tmps)=false:=by simp[Region.wanted,O,hy]
   rw[J];exact y h5
def Run (Γ:List Ctr)(T:TypeId->TI)(all:Array Oper):St->List Oper->List Upd->List cM->St->Prop
 |st,[],[],[],st'=>st'=st
 |st,o::u,U::y,t::r,st'=>jC Γ T all o st U t/\Run Γ T all (ae U st) u y r st'
 |_,_,_,_,_=>False
theorem pf:∀ (H:List Oper) (st:St) (y:List cM) (z:St->List cM->Option R) (r:R),qj Γ T all H st y z=some r ->
  ∃ I u st',Run Γ T all st H I u st'/\z st' (y++u)=some r
 |[],st,y,z,r,h=>⟨[],[],st,rfl,by simpa[qj]using h⟩
 |o::H,st,y,z,r,h=>by
  simp only[qj]at h;obtain⟨U,t,O,M⟩:=Ao h;obtain⟨I,u,st',X,J⟩:=pf H (ae U st) (y++[t]) z r M;exact⟨U::I,t::u,st',⟨O,X⟩,by rw[Bv]at J;exact J⟩
theorem jC.res {U:Upd}{t:cM}(h:jC Γ T all o st U t):mq Γ T all o st U:=h.frame (λ_ _=>rfl) (λ_ _=>rfl)
theorem vd (Z:ay V)(X:TOk P T)(hΓ:∀ c∈Γ,bP P c){ops:Array Oper}(z:∀ (i:Nat) (o:Oper),ops[i]?=some o->bN V o)
  (r:∀ (i:Nat) (o:Oper),ops[i]?=some o->∀ j u,o.guard=some (j,u)->∀ s,(ops[j]?).bind (·.dst)=some s->s<V.nt) {Q:Exit->Act->World->Prop} :
  ∀ (y:List Oper) (k:Nat) (st:St) (us:List Upd) (H:List cM) (st':St),ops.toList.drop k=y->Run Γ T ops st y us H st'->(∀ a w,Rel P V st' a w->Q .normal a w) ->
   ∀ a w,Rel P V st a w->wpOps P ops Q (List.range' k y.length) a w
 |[],k,st,[],[],st',_,h,O,a,w,M=>by
  have h:st'=st:=h;subst h;exact O a w M
 |o::y,k,st,U::us,t::H,st',Y,h,O,a,w,M=>by
  obtain⟨h1,h2⟩:=h;have I:ops[k]?=some o:=by
   have:(ops.toList.drop k)[0]?=some o:=by rw[Y];rfl
   rw[List.getElem?_drop]at this;simpa using this
  rw[B7,List.range'_succ,wpOps_cons];refine wv Z X hΓ I (z k o I) (r k o I) h1.res M (λa' w' J=>?_);exact vd Z X hΓ z r y (k+1) (ae U st) us H st' (by rw[<- Ca,Y];rfl) h2 O a' w' J
end
section
variable {P:Program} {V:Env} {Γ:List Ctr} {T:TypeId->TI} {st st':St} {o:Oper} {R:Type} {all:Array Oper}
def dg (D:Nat->Bool):List Upd->St->St
 |[],st=>st
 |U::r,st=>dg (λj=>D (j+1)) r (bif D 0 then ae U st else st)
theorem jh {q:Nat}:∀ {U:Upd} (s u:St),q∈U.map (·.1)->ae U s q=ae U u q
 |[],_,_,h=>by simp at h
 |(r,c)::U,s,u,h=>by
  simp only[ae];cases y:BJ q r with
  |true=>rfl
  |false =>
   simp only[cond_false];refine jh s u ?_;simp only[BY,BO]at h;rcases h with rfl|h
   ·simp at y
   ·exact h
theorem eE {q:Nat}:∀ {U:Upd} (s:St),q∉U.map (·.1)->ae U s q=s q
 |[],_,_=>rfl
 |(r,c)::U,s,h=>by
  simp only[BY,BO,not_or]at h;have u:BJ q r=false:=by
   cases u:BJ q r with
   |false=>rfl
   |true=>exact absurd (BH u) h.1
  simp only[ae,u,cond_false];exact eE s h.2
theorem xQ {U r:Upd}(h:∀ q,q∈U.map (·.1)->q∉r.map (·.1))(s:St):ae r (ae U s)=ae U (ae r s):=by
 funext q;by_cases u:q∈U.map (·.1)
 ·rw[eE _ (h q u)];exact jh _ _ u
 ·rw[eE (U:=U) _ u];by_cases y:q∈r.map (·.1)
  ·exact jh _ _ y
  ·rw[eE _ y,eE _ y,eE _ u]
theorem mr:∀ {us:List Upd} {D D':Nat->Bool} {s:St},(∀ j,j<us.length->D j=D' j)->dg D us s=dg D' us s
 |[],_,_,_,_=>rfl
 |U::us,D,D',s,h=>by
  simp only[dg];rw[h 0 (by simp)];exact mr (λj r=>h (j+1) (by simpa using r))
theorem ny:∀ {us:List Upd} {D:Nat->Bool} {s:St},(∀ j,D j=false)->dg D us s=s
 |[],_,_,_=>rfl
 |U::us,D,s,h=>by
  simp only[dg,h 0,cond_false];exact ny (λj=>h (j+1))
theorem mt {q:Nat}:∀ {us:List Upd} {D D':Nat->Bool} {s r:St},s q=r q->(∀ (j:Nat) (U:Upd),us[j]?=some U->q∈U.map (·.1)->D j=D' j)->dg D us s q=dg D' us r q
 |[],_,_,_,_,h,_=>h
 |U::us,D,D',s,r,h,H=>by
  simp only[dg];refine mt ?_ (λj I J z=>H (j+1) I (by simpa using J) z);by_cases u:q∈U.map (·.1)
  ·rw[H 0 U rfl u];cases D' 0 with
   |true=>exact jh _ _ u
   |false=>exact h
  ·have M:∀ b:Bool,(bif b then ae U s else s) q=s q:=by intro b;cases b <;> simp[eE _ u]
   have y:∀ b:Bool,(bif b then ae U r else r) q=r q:=by intro b;cases b <;> simp[eE _ u]
   rw[M,y,h]
theorem nz {U:Upd}:∀ {us:List Upd} {D:Nat->Bool} {s:St},(∀ (j:Nat) (u:Upd),us[j]?=some u->D j=true->∀ q,q∈U.map (·.1)->q∉u.map (·.1))->dg D us (ae U s)=ae U (dg D us s)
 |[],_,_,_=>rfl
 |u::us,D,s,h=>by
  simp only[dg];cases H:D 0 with
  |true =>
   simp only[cond_true];rw[xQ (h 0 u rfl H)];exact nz (λj r z y=>h (j+1) r (by simpa using z) y)
  |false =>
   simp only[cond_false];exact nz (λj r z y=>h (j+1) r (by simpa using z) y)
theorem oD {U:Upd}:∀ {us:List Upd} {i:Nat} {D D':Nat->Bool} {s:St},us[i]?=some U->D i=false->(∀ j,D' j=(D j||BJ j i)) ->
  (∀ (j:Nat) (u:Upd),us[j]?=some u->i<j->D j=true->∀ q,q∈U.map (·.1)->q∉u.map (·.1))->dg D' us s=ae U (dg D us s)
 |[],i,_,_,_,h,_,_,_=>by simp at h
 |V::us,0,D,D',s,h,I,r,H=>by
  simp at h;subst h;simp only[dg];have y:D' 0=true:=by rw[r 0];simp
  rw[y,I];simp only[cond_true,cond_false];have e:dg (λj=>D' (j+1)) us (ae V s)=dg (λj=>D (j+1)) us (ae V s):=mr (λj _=>by rw[r (j+1)];simp[BJ]);rw[e];exact nz (λj u z J=>H (j+1) u (by simpa using z) (by omega) J)
 |V::us,i+1,D,D',s,h,I,r,H=>by
  simp only[dg];have y:D' 0=D 0:=by rw[r 0];simp[BJ]
  rw[y];exact oD (i:=i) (by simpa using h) I (λj=>by rw[r (j+1)];simp[BJ]) (λj u z J M=>H (j+1) u (by simpa using z) (by omega) M)
theorem qK:∀ {r:List Oper} {us:List Upd} {u:List cM} {s z:St},Run Γ T all s r us u z->∀ (i:Nat) (o:Oper),r[i]?=some o ->
  ∃ U t,us[i]?=some U/\u[i]?=some t/\jC Γ T all o (dg (λj=>decide (j<i)) us s) U t
 |[],_,_,_,_,_,i,o,h=>by simp at h
 |H::r,[],_,_,_,h,_,_,_=>h.elim
 |H::r,_::_,[],_,_,h,_,_,_=>h.elim
 |H::r,U::us,t::u,s,z,h,0,o,y=>by
  simp at y;subst y;exact⟨U,t,rfl,rfl,by rw[ny (λj=>by simp)];exact h.1⟩
 |H::r,U::us,t::u,s,z,h,i+1,o,y=>by
  obtain⟨X,M,J,I,O⟩:=qK h.2 i o (by simpa using y);refine⟨X,M,by simpa using J,by simpa using I,?_⟩;simp only[dg];have e:(λj=>decide (j+1<i+1))=λj=>decide (j<i):=by funext j;simp
  rw[e];simpa using O
theorem ve:∀ {r:List Oper} {us:List Upd} {u:List cM} {s y:St},Run Γ T all s r us u y->us.length=r.length/\u.length=r.length/\y=dg (λ_=>true) us s
 |[],[],[],_,_,h=>⟨rfl,rfl,h⟩
 |[],_::_,_,_,_,h=>h.elim
 |[],[],_::_,_,_,h=>h.elim
 |_::_,[],_,_,_,h=>h.elim
 |_::_,_::_,[],_,_,h=>h.elim
 |o::r,U::us,t::u,s,y,h=>by
  obtain⟨H,z,I⟩:=ve h.2;exact⟨by simp[H],by simp[z],by simpa[dg]using I⟩
theorem qL {q:Nat}:∀ {os:List Oper} {us:List Upd} {H:List cM} {O s':St} {D:Nat->Bool} {F:Nat->Bool} {s sF:St} {B:Prop},Run Γ T all O os us H s'->(∀ (j:Nat) (t:cM),H[j]?=some t->F j=decide (q∈t.wr)) ->
  bJ (s q)=bJ (sF q)->(B->bJ (sF q)=bJ (O q)) ->
  (∀ (j:Nat) (t:cM) (U:Upd),H[j]?=some t->us[j]?=some U->D j=true->q∉t.wr->q∈U.map (·.1)->B/\∀ (k:Nat) (t':cM),k<j->H[k]?=some t'->q∈t'.wr->D k=true) ->
  bJ (dg D us s q)=bJ (dg (λj=>D j&&F j) us sF q)
 |[],[],[],_,_,_,_,_,_,_,_,_,J,_,_=>J
 |[],_::_,_,_,_,_,_,_,_,_,h,_,_,_,_=>h.elim
 |[],[],_::_,_,_,_,_,_,_,_,h,_,_,_,_=>h.elim
 |_::_,[],_,_,_,_,_,_,_,_,h,_,_,_,_=>h.elim
 |_::_,_::_,[],_,_,_,_,_,_,_,h,_,_,_,_=>h.elim
 |o::os,U::us,t::H,O,s',D,F,s,sF,B,h,hF,J,X,I=>by
  obtain⟨⟨⟨k1,k2,k3⟩,_⟩,z⟩:=h;have y:=hF 0 t rfl;simp only[dg];refine qL (F:=λj=>F (j+1)) (B:=B/\(q∈t.wr->D 0=true)) z (λj t' ht=>hF (j+1) t' (by simpa using ht)) ?_ ?_ ?_
  ·by_cases r:q∈U.map (·.1)
   ·by_cases u:q∈t.wr
    ·rw[y,decide_eq_true u,CT];cases D 0 with
     |true=>simp only[cond_true];rw[jh s sF r]
     |false=>exact J
    ·rw[y,decide_eq_false u,CM];simp only[cond_false];cases M:D 0 with
     |true =>
      simp only[cond_true];rw[jh s O r,k3 q r u];exact (X (I 0 t U rfl rfl M u r).1).symm
     |false=>exact J
   ·have e:∀ (b:Bool) (x:St),(bif b then ae U x else x) q=x q:=by intro b x;cases b <;> simp[eE _ r]
    rw[e,e];exact J
  ·rintro⟨hB,M⟩;by_cases r:q∈U.map (·.1)
   ·by_cases u:q∈t.wr
    ·rw[y,decide_eq_true u,CT,M u];simp only[cond_true];rw[jh sF O r]
    ·rw[y,decide_eq_false u,CM];simp only[cond_false];rw[k3 q r u];exact X hB
   ·have e:∀ (b:Bool) (x:St),(bif b then ae U x else x) q=x q:=by intro b x;cases b <;> simp[eE _ r]
    rw[e,eE _ r];exact X hB
  ·intro j t' U' ht hU M u r;obtain⟨g1,g2⟩:=I (j+1) t' U' (by simpa using ht) (by simpa using hU) M u r;exact⟨⟨g1,λa0=>g2 0 t (by omega) rfl a0⟩,λk t2 hk Z Y=>g2 (k+1) t2 (by omega) (by simpa using Z) Y⟩
theorem rG {f:Nat->Nat}{i:Nat}:∀ (l:List Edge) (s:Nat),(l.foldl (λs e=>bif Region.binds .any e then s ||| 2 ^ e.on ||| f e.on else s) s).testBit i=true ->
  s.testBit i=true\/∃ e∈l,Region.binds .any e=true/\(i=e.on\/(f e.on).testBit i=true)
 |[],s,h=>.inl h
 |e::l,s,h=>by
  simp only[Cw]at h;rcases rG l _ h with h|⟨z,y,u⟩
  ·cases r:Region.binds .any e with
   |false=>rw[r]at h;exact .inl h
   |true =>
    rw[r]at h;simp only[cond_true,Nat.testBit_or,CI]at h;rcases h with (h|h)|h
    ·exact .inl h
    ·refine .inr ⟨e,BG ..,r,.inl ?_⟩;rw[Nat.testBit_two_pow]at h;exact (of_decide_eq_true h).symm
    ·exact .inr ⟨e,BG ..,r,.inr h⟩
  ·exact .inr ⟨z,BF _ y,u⟩
theorem tK:∀ (z:List Oper) (r:List Nat),(∀ j,j<r.length->(jD z r).getD j 0=r.getD j 0) /\
  ∀ (k:Nat) (o:Oper),z[k]?=some o->∃ u:List Nat,u.length=r.length+k/\(∀ j,j<u.length->u.getD j 0=(jD z r).getD j 0) /\
   (jD z r).getD (r.length+k) 0=o.after.toList.foldl (λs e=>bif Region.binds .any e then s ||| 2 ^ e.on ||| u.getD e.on 0 else s) 0
 |[],r=>⟨λ_ _=>rfl,λk o h=>by simp at h⟩
 |o::z,r=>by
  obtain⟨I,M⟩:=tK z (r++[o.after.toList.foldl (λs e=>bif Region.binds .any e then s ||| 2 ^ e.on ||| r.getD e.on 0 else s) 0]);have y:∀ j,j<r.length->(jD (o::z) r).getD j 0=r.getD j 0:=by
   intro j H;simp only[jD];rw[I j (by simp;omega)];simp[BP,Bs H]
  refine⟨y,λk J h=>?_⟩;cases k with
  |zero =>
   simp at h;subst h;refine⟨r,rfl,λj H=>(y j H).symm,?_⟩;simp only[jD];rw[Nat.add_zero,I r.length (by simp)];simp[BP]
  |succ k =>
   obtain⟨u,X,Y,O⟩:=M k J (by simpa using h);refine⟨u,by simp at X;omega,λj H=>Y j H,?_⟩;simp only[jD];have e:r.length+(k+1)=(r++[o.after.toList.foldl (λs e=>bif Region.binds .any e then s ||| 2 ^ e.on ||| r.getD e.on 0 else s) 0]).length+k:=by simp;omega
   rw[e];exact O
theorem jp {ops:Array Oper}{D:Nat->Prop}(z:∀ (j:Nat) (o:Oper),ops[j]?=some o->D j->∀ e∈o.after.toList,Region.binds .any e=true->D e.on) :
  ∀ (n j:Nat),j<n->∀ (o:Oper),ops[j]?=some o->(∀ e∈o.after.toList,Region.binds .any e=true->D e.on)->∀ i,((jD ops.toList []).getD j 0).testBit i=true->D i
 |0,_,h,_,_,_,_,_=>by omega
 |n+1,j,hj,o,J,M,i,I=>by
  obtain⟨r,h1,Z,X⟩:=(tK ops.toList []).2 j o (by simpa using J);simp only[List.length_nil,CB]at h1 X;rw[X]at I;rcases rG (f:=λk=>r.getD k 0) _ _ I with h|⟨e,O,Y,y⟩
  ·simp at h
  ·rcases y with rfl|y
   ·exact M e O Y
   ·have H:e.on<r.length:=by
     apply Bt;intro hn;have:r.getD e.on 0=0:=by
      rw[BP,CY (by omega)];rfl
     rw[this]at y;simp at y
    rw[Z _ H]at y;have hD:=M e O Y;have u:e.on<ops.size:=by
     have:=(CN.1 J).1;omega
    exact jp z n e.on (by omega) ops[e.on] (BM u) (z e.on _ (BM u) hD) i y
theorem fU {a b:List Nat}(h:lK a b=false){q:Nat}(u:q∈a):q∉b:=by
 intro r;unfold lK at h;rw[CR]at h;have:=h q u;simp only[CH,not_exists,not_and]at this;exact this q r (by simp)
theorem lh {r:List Nat}{u:List cM}(h:pq r u=true){i j:Nat}(z:i<j){x y:cM}(O:u[i]?=some x)(J:u[j]?=some y):(r.getD j 0).testBit i=true\/x.apart y=true:=by
 unfold pq at h;rw[BX]at h;have M:=(BK.1 J).1;have I:=h j (by simpa using M);rw[BX]at I;have H:=I i (by simpa using z);simp only[O,J,CI]at H;exact H
theorem qf {p p':Nat->Bool}{i:Nat}(I:p i=true)(r:p' i=false)(h:∀ j,j≠i->p' j=p j):∀ (l:List Nat),l.Nodup->i∈l->l.countP p'+1=l.countP p
 |[],_,z=>by simp at z
 |x::l,u,z=>by
  rw[Bz]at u;by_cases H:x=i
  ·subst H;have e:l.countP p'=l.countP p:=by
    apply List.countP_congr;intro y J;rw[h y (λe=>u.1 (e ▸ J))]
   simp[I,r,e]
  ·have M:=qf I r h l u.2 ((BO.1 z).resolve_left (λe=>H e.symm));simp only[Cs,h x H];omega
theorem Bh (hV:ay V)(hT:TOk P T)(hΓ:∀ c∈Γ,bP P c){ops:Array Oper}(d3:∀ (i:Nat) (o:Oper),ops[i]?=some o->bN V o)
  (b5:∀ (i:Nat) (o:Oper),ops[i]?=some o->∀ j cc,o.guard=some (j,cc)->∀ s,(ops[j]?).bind (·.dst)=some s->s<V.nt) {Q:Exit->Act->World->Prop}
  {us:List Upd} {ts:List cM} {s0 s1:St} (a3:Run Γ T ops s0 ops.toList us ts s1) (a4:nF ops=true) (c1:pq (jD ops.toList []) ts=true) (hQ:∀ a w,Rel P V s1 a w->Q .normal a w) :
  ∀ (a0:Nat) (r:Array Bool) (a:Act) (w:World),r.size=ops.size->(Cy ops.size).countP (λi=>!r.getD i true)=a0 ->
   (∀ (j:Nat) (o:Oper),ops[j]?=some o->r.getD j false=true->∀ e∈o.after.toList,Region.binds .any e=true->r.getD e.on false=true) ->
   Rel P V (dg (λj=>r.getD j false) us s0) a w->wpAny P .any ops Q a0 r a w:=by
 obtain⟨ed,ec,c3⟩:=ve a3;have eb:ops.toList.length=ops.size:=Cf;have ba:∀ (r:Array Bool),r.size=ops.size->Region.ready .any ops r=[]->∀ i,i<ops.size->r.getD i false=true:=by
  intro r a2 hr i;induction i using Cx with
  |ind i ih =>
   intro hi;cases hl:r.getD i false with
   |true=>rfl
   |false =>
    exfalso;have e0:r.getD i true=false:=by
     rw[BN,BM (by omega)]at hl ⊢;exact hl
    have ho:ops[i]?=some ops[i]:=BM hi;have bb:i∈Region.ready .any ops r:=by
     unfold Region.ready;rw[CC];refine⟨by simpa using hi,?_⟩;rw[e0,ho];simp only[Cz,Cj,Br,Ct];rw[CE];intro e he;cases dd:Region.binds .any e with
     |false=>rfl
     |true =>
      simp only[Bool.not_true,Bool.false_or];have b6:e.on<i:=by
       unfold nF at a4;rw[BX]at a4;have:=a4 i (by simpa using hi);simp only[ho]at this;rw[BX]at this;have:=this e (by simpa using he);simpa[dd]using this
      exact ih e.on b6 (by omega)
    rw[hr]at bb;simp at bb
 have bn:∀ (r:Array Bool) (a:Act) (w:World),r.size=ops.size->Rel P V (dg (λj=>r.getD j false) us s0) a w->Region.ready .any ops r=[]->Q .normal a w:=by
  intro r a w a2 hr b9;refine hQ a w ?_;rw[c3];have:dg (λ_=>true) us s0=dg (λj=>r.getD j false) us s0:=mr (λj J=>(ba r a2 b9 j (by omega)).symm);rw[this];exact hr
 intro a0;induction a0 with
 |zero =>
  intro r a w a2 X b4 hr;have b9:Region.ready .any ops r=[]:=by
   unfold Region.ready;rw[List.filter_eq_nil_iff];intro i hi hc;rw[Cg]at X;have:=X i hi;simp only[BC]at hc;exact this hc.1
  exact⟨b9,bn r a w a2 hr b9⟩
 |succ a0 ih =>
  intro r a w a2 X b4 hr;refine⟨bn r a w a2 hr,λi hi=>?_⟩;unfold Region.ready at hi;rw[CC]at hi;obtain⟨ad,bx⟩:=hi;have ad:i<ops.size:=by simpa using ad
  have ho:ops[i]?=some ops[i]:=BM ad;rw[ho]at bx;simp only[BC,B5,Br,Ct]at bx;obtain⟨b0,a6⟩:=bx;rw[CE]at a6;have O:r.getD i false=false:=by
   rw[BN,BM (by omega)]at b0 ⊢;exact b0
  have c6:∀ e∈(ops[i]).after.toList,Region.binds .any e=true->r.getD e.on false=true:=by
   intro e he hb;have:=a6 e (by simpa using he);simpa[hb]using this
  obtain⟨U,t,hU,ht,ab⟩:=qK a3 i ops[i] (by simp);have b1:∀ (j:Nat) (o:Oper),ops[j]?=some o->(λk=>r.getD k false=true) j->∀ e∈o.after.toList,Region.binds .any e=true->(λk=>r.getD k false=true) e.on:=b4;obtain⟨e4,_,_⟩:=ab.1;have Y:∀ (j:Nat) (M:Upd),us[j]?=some M->∃ H,ts[j]?=some H/\(∀ q∈M.map (·.1),q∈H.wr\/q∈H.cw)/\∀ q∈H.wr,q∈M.map (·.1):=by
   intro j M J;have a5:j<ops.size:=by
    have:=(BK.1 J).1;omega
   obtain⟨U2,t2,h1,Z,h3⟩:=qK a3 j ops[j] (by simp[a5]);rw[J]at h1;cases h1;exact⟨t2,Z,h3.1.1,h3.1.2.1⟩
  have cb:∀ (j:Nat) (M:Upd),us[j]?=some M->j≠i->r.getD j false≠decide (j<i)->∃ H,ts[j]?=some H/\(∀ q∈M.map (·.1),q∈H.wr\/q∈H.cw)/\(H.apart t=true\/t.apart H=true):=by
   intro j M J b2 u;obtain⟨H,h1,Z,_⟩:=Y j M J;refine⟨H,h1,Z,?_⟩;rcases Nat.lt_or_gt_of_ne b2 with b6|e6
   ·have hl:r.getD j false=false:=by
     cases hl:r.getD j false with
     |false=>rfl
     |true=>rw[hl]at u;simp[b6]at u
    rcases lh c1 b6 h1 ht with h3|h3
    ·have:=jp b1 (i+1) i (CA _) ops[i] ho c6 j h3;rw[hl]at this;cases this
    ·exact .inl h3
   ·have hl:r.getD j false=true:=by
     cases hl:r.getD j false with
     |true=>rfl
     |false=>rw[hl]at u;simp at u;omega
    have a5:j<ops.size:=by
     have:=(BK.1 J).1;omega
    have b3:ops[j]?=some ops[j]:=BM a5;rcases lh c1 e6 ht h1 with h3|h3
    ·have:=jp b1 (j+1) j (CA _) ops[j] b3 (b4 j _ b3 hl) i h3;rw[O]at this;cases this
    ·exact .inr h3
  have a1:∀ (x y:cM),x.apart y=true->(∀ q,q∈x.wr\/q∈x.cw->(q∉y.wr/\q∉y.cw)/\q∉y.rd)/\(∀ q,q∈y.wr\/q∈y.cw->(q∉x.wr/\q∉x.cw)/\q∉x.rd)/\(∀ q∈x.wr,q∉y.hd)/\∀ q∈y.wr,q∉x.hd:=by
   intro x y h;unfold cM.apart at h;simp only[BC,B5]at h;obtain⟨⟨⟨⟨h1,Z⟩,h3⟩,h4⟩,h5⟩:=h;refine⟨λq I=>?_,λq I=>?_,λq I=>fU h4 I,λq I hx=>fU h5 hx I⟩
   ·have I:=BB.2 I;have:=fU h1 I;simp only[BB,not_or]at this;exact⟨this,fU Z I⟩
   ·have I:=BB.2 I;have:q∉x.wr++x.cw:=λhx=>fU h1 hx I
    simp only[BB,not_or]at this;exact⟨this,λhx=>fU h3 hx I⟩
  have bl:∀ (j:Nat) (M:Upd),us[j]?=some M->j≠i->r.getD j false≠decide (j<i)->∀ q∈M.map (·.1),(q∉t.wr/\q∉t.cw)/\q∉t.rd:=by
   intro j M J b2 u q I;obtain⟨H,_,h1,Z⟩:=cb j M J b2 u;rcases Z with Z|Z
   ·exact (a1 _ _ Z).1 q (h1 q I)
   ·exact (a1 _ _ Z).2.1 q (h1 q I)
  have c2:∀ (j:Nat) (H:cM),ts[j]?=some H->j≠i->r.getD j false≠decide (j<i)->∀ q∈H.wr,q∉t.hd:=by
   intro j H J b2 u q I;have a5:j<us.length:=by
    have:=(BK.1 J).1;omega
   obtain⟨t2,h0,_,Z⟩:=cb j us[j] (BR a5) b2 u;rw[J]at h0;cases h0;rcases Z with Z|Z
   ·exact (a1 _ _ Z).2.2.1 q I
   ·exact (a1 _ _ Z).2.2.2 q I
  have cp:mq Γ T ops ops[i] (dg (λj=>r.getD j false) us s0) U:=by
   refine ab.frame (λq I=>?_) (λq I=>?_)
   ·refine mt rfl λj M J d2=>?_
    by_cases z:j=i
    ·subst z;rw[O];simp
    ·apply Bt;intro u;have:=bl j M J z u q d2;rcases I with I|I
     ·exact this.2 I
     ·exact this.1.1 I
   ·have cx:∀ (j:Nat) (H:cM),ts[j]?=some H->(λj=>match ts[j]? with|some H=>decide (q∈H.wr)|none=>false) j=decide (q∈H.wr):=λj H h=>by simp only[h]
    have e1:=qL (q:=q) (D:=λj=>r.getD j false) (F:=λj=>match ts[j]? with|some H=>decide (q∈H.wr)|none=>false) (s:=s0) (sF:=s0) (B:=True) a3 cx rfl (λ_=>rfl) (λj H M J hU hD hw cy=>by
     refine⟨trivial,λk t2 hk cu c5=>?_⟩;obtain⟨t3,h3,h4,_⟩:=Y j M hU;rw[J]at h3;cases h3;have dc:=(h4 q cy).resolve_left hw;have a5:j<ops.size:=by
      have:=(BK.1 hU).1;omega
     have b3:ops[j]?=some ops[j]:=BM a5;rcases lh c1 hk cu J with h5|h5
     ·exact jp b1 (j+1) j (CA _) ops[j] b3 (b4 j _ b3 hD) k h5
     ·exact absurd dc ((a1 _ _ h5).1 q (.inl c5)).1.2)
    have e2:=qL (q:=q) (D:=λj=>decide (j<i)) (F:=λj=>match ts[j]? with|some H=>decide (q∈H.wr)|none=>false) (s:=s0) (sF:=s0) (B:=True) a3 cx rfl (λ_=>rfl) (λj H M J hU hD hw cy=>by
     refine⟨trivial,λk t2 hk cu c5=>?_⟩;have:=of_decide_eq_true hD;exact decide_eq_true (by omega))
    rw[e1,e2];congr 1;refine mt rfl λj M J d2=>?_
    obtain⟨H,h1,Z,_⟩:=Y j M J;simp only[h1];by_cases hw:q∈H.wr
    ·rw[decide_eq_true hw,CT,CT];by_cases z:j=i
     ·subst z;rw[O];simp
     ·apply Bt;intro u;exact c2 j H h1 z u q hw I
    ·rw[decide_eq_false hw,CM,CM]
  refine wv hV hT hΓ ho (d3 i _ ho) (b5 i _ ho) cp hr λa' w' e5=>?_
  have a9:∀ (b:Bool) (j:Nat),(r.setIfInBounds i true).getD j b=if j=i then true else r.getD j b:=by
   intro b j;simp only[BN,Array.getElem?_setIfInBounds];by_cases z:j=i
   ·subst z;simp[a2,ad]
   ·rw[if_neg (λe=>z e.symm),if_neg z]
  refine ih _ a' w' (by simpa using a2) ?_ ?_ ?_
  ·have:=qf (p:=λj=>!r.getD j true) (p':=λj=>!(r.setIfInBounds i true).getD j true) (i:=i) (by simp[b0]) (by simp[a9]) (λj J=>by simp[a9,J]) (Cy ops.size) List.nodup_range (by simpa using ad);omega
  ·intro j o' J c0 e he hb;rw[a9]at c0 ⊢;by_cases d1:e.on=i
   ·rw[if_pos d1]
   ·rw[if_neg d1];by_cases z:j=i
    ·subst z;rw[ho]at J;cases J;exact c6 e he hb
    ·rw[if_neg z]at c0;exact b4 j o' J c0 e he hb
  ·have c4:=oD (U:=U) (us:=us) (i:=i) (D:=λj=>r.getD j false) (D':=λj=>(r.setIfInBounds i true).getD j false) (s:=s0) hU O (λj=>by
     simp only[a9];by_cases z:j=i
     ·subst z;simp
     ·have:BJ j i=false:=by
       cases hb:BJ j i with
       |false=>rfl
       |true=>exact absurd (BH hb) z
      simp[z,this])
    (λj M J e7 hD q I e3=>by
     have:=bl j M J (by omega) (by rw[hD];simp;omega) q e3;exact (e4 q I).elim this.1.1 this.1.2)
   rw[c4];exact e5
theorem Bi (hV:ay V)(hT:TOk P T)(hΓ:∀ c∈Γ,bP P c)(O:P.follows .mixedOrders=true){id:Nat}{ops:Array Oper}{z:Bool}(X:∀ (i:Nat) (o:Oper),ops[i]?=some o->bN V o)
  (u:∀ (i:Nat) (o:Oper),ops[i]?=some o->∀ j J,o.guard=some (j,J)->∀ s,(ops[j]?).bind (·.dst)=some s->s<V.nt) {Q:Exit->Act->World->Prop} {κ:St->Option R} {r:R}
  (h:regK Γ T ops z st κ=some r) (hκ:∀ H,κ H=some r->∀ a w,Rel P V H a w->Q .normal a w) {a:Act} {w:World} (Y:Rel P V st a w):(Code.region id ops z).wp P Q a w:=by
 unfold regK at h;cases z with
 |true =>
  simp only[cond_true]at h;obtain⟨us,Z,H,y,I⟩:=pf _ _ _ _ _ h;simp only[Bx]at I;cases M:nF ops&&pq (jD ops.toList []) Z with
  |false=>simp[M]at I
  |true =>
   simp only[M,cond_true]at I;simp only[BC]at M;refine wp_region_any O ?_;have hD:∀ j,(B3 ops.size false).getD j false=false:=by
    intro j;simp only[BN,CU];split <;> rfl
   refine Bh hV hT hΓ X u y M.1 M.2 (hκ H I) ops.size (B3 ops.size false) a _ (by simp) ?_ ?_ ?_
   ·rw[List.countP_eq_length.2]
    ·simp
    ·intro i hi;have hi:i<ops.size:=by simpa using hi
     simp[BN,CU,hi]
   ·intro j o' _ hl;rw[hD]at hl;cases hl
   ·rw[ny (λj=>hD j)];obtain⟨W,Y⟩:=Y;exact⟨W,Y.world hV (w':={ w with drawn:=w.drawn+1 }) (Cb _) rfl rfl rfl (λ_ _=>rfl)⟩
 |false =>
  simp only[cond_false]at h;obtain⟨us,Z,H,y,I⟩:=pf _ _ _ _ _ h;refine wp_region ?_;have:=vd hV hT hΓ X u ops.toList 0 st us Z H (by simp) y (hκ H I) a w Y;rw[Cf,<- List.range_eq_range']at this;exact this
end
section
variable {P:Program} {V:Env} {Γ:List Ctr} {T:TypeId->TI} {st st':St} {o:Oper} {R:Type} {all:Array Oper}
theorem kM (live:List Nat):∀ (cs:List Coe) (ls:List Leaf),(cY st live cs ls).length=ls.length
 |[],[]=>rfl
 |_::_,[]=>rfl
 |[],_::ls=>by simp[cY,kM live [] ls]
 |_::cs,_::ls=>by simp[cY,kM live cs ls]
theorem pg (live:List Nat):∀ (cs:List Coe) (ls:List Leaf) (j:Nat) (l:Leaf),(cY st live cs ls)[j]?=some l->∃ r,ls[j]?=some r/\(l=.dead\/∃ c,l=bt st live c r)
 |[],[],j,l,h=>by simp[cY]at h
 |_::_,[],j,l,h=>by simp[cY]at h
 |[],r::ls,0,l,h=>by simp[cY]at h;exact⟨r,rfl,.inl h.symm⟩
 |c::cs,r::ls,0,l,h=>by simp[cY]at h;exact⟨r,rfl,.inr ⟨c,h.symm⟩⟩
 |[],r::ls,j+1,l,h=>by
  simp only[cY,CV]at h;obtain⟨z,y,u⟩:=pg live [] ls j l h;exact⟨z,by simpa using y,u⟩
 |c::cs,r::ls,j+1,l,h=>by
  simp only[cY,CV]at h;obtain⟨z,y,u⟩:=pg live cs ls j l h;exact⟨z,by simpa using y,u⟩
theorem Ap (live:List (Nat×List Coe))(q:Nat):lL live st q=bT.none/\q∉live.map (·.1)\/∃ y,lL live st q=⟨0,(st q).sh,cY st (live.map (·.1)) y (st q).ls⟩/\q∈live.map (·.1):=by
 have H:∀ (u:List Nat) (l:List (Nat×List Coe)),(aw (l.map λr=>(r.1,⟨0,(st r.1).sh,cY st u r.2 (st r.1).ls⟩)) q=bT.none/\q∉l.map (·.1)) \/
   ∃ y,aw (l.map λr=>(r.1,⟨0,(st r.1).sh,cY st u r.2 (st r.1).ls⟩)) q=⟨0,(st q).sh,cY st u y (st q).ls⟩/\q∈l.map (·.1):=by
  intro u l;induction l with
  |nil=>exact .inl ⟨rfl,by simp⟩
  |cons x l O =>
   obtain⟨r,y⟩:=x;by_cases h:q=r
   ·subst h;exact .inr ⟨y,by simp[aw,ae],by simp⟩
   ·have z:BJ q r=false:=by
     cases z:BJ q r with
     |false=>rfl
     |true=>exact absurd (BH z) h
    rcases O with ⟨M,J⟩|⟨I,M,J⟩
    ·refine .inl ⟨?_,by simpa[h]using J⟩;rw[<- M];simp[aw,ae,z]
    ·refine .inr ⟨I,?_,by simp only[BY,BO];exact .inr J⟩;rw[<- M];simp[aw,ae,z]
 exact H (live.map (·.1)) live
theorem xR {keys:List Nat}{c:Coe}{r:Leaf}(h:ap (bt st keys c r)):ap r\/r=.nil:=by
 cases r with
 |own p u E e y=>exact .inl trivial
 |nil=>exact .inr rfl
 |_ =>
  exfalso;revert h;cases c <;> simp only[bt] <;> first
   |exact id
   |(cases (!_||_:Bool) <;> first | exact id | (split <;> exact id))
   |(cases (_&&_:Bool) <;> exact id)
   |(cases (List.any _ _:Bool) <;> exact id)
   |(cases (List.all _ _:Bool) <;> exact id)
theorem iM.nw {W W':Wit}{w:World}{c:Bool×Bool×(a:Ty)×a.den}{u:Value}(r:∀ k,W.nw k->W'.nw k)(h:iM V W w c u):iM V W' w c u:=by
 have z:∀ (p:Bool) k,gd V W p k->gd V W' p k:=λp k hk=>hk.imp (r k) id
 unfold iM at h ⊢;split at h
 ·rename_i I;rw[if_pos I];obtain⟨b,ob,g,Y,M,X,O,y,Z,J,H⟩:=h;exact⟨b,ob,g,Y,M,X,O.imp (r b) id,y,Z.imp (r g) id,Rd.mono (z _) J,H⟩
 ·rename_i I;rw[if_neg I];obtain⟨g,Y,M,X,Z,J,H⟩:=h;exact⟨g,Y,M,X,Z.imp (r g) id,Rd.mono (z _) J,H⟩
theorem ww {W W':Wit}{w:World}{keys:List Nat}{bs bs':List Nat}{c:Coe}{M:Leaf}{v:Value}(h:aK P V W st w bs M v)
  (J:∀ k,W.nw k->W'.nw k) (hβ:W'.β=W.β) (a5:∀ q,keys.any (BJ q)=true->W'.cs q=W.cs q) (I:∀ b,keys.any (BJ b)=true->(st b).sh=.agg->(st' b).sh=.agg)
  (a1:ap M->bs'=bs) (a0:M=.nil->bs'=[]) (a2:ap M->¬ ap (bt st keys c M)->(∃ p E e,c=.ro p E e)->∀ k∈bs,W'.nw k) :
  aK P V W' st' w bs' (bt st keys c M) v:=by
 have H:∀ (p q:Bool),(!q||p)=true->∀ k,gd V W q k->gd V W' p k:=by
  intro p q a3 k z;rcases z with z|⟨h1,z⟩
  ·exact .inl (J k z)
  ·refine .inr ⟨?_,z⟩;subst h1;simpa using a3
 cases c with
 |kill=>simp only[bt];trivial
 |keep =>
  cases M with
  |int k n=>exact h
  |bool b=>exact h
  |str s=>exact h
  |nil=>exact h
  |hdr n=>exact h
  |fn As B φ=>exact h
  |clr f O =>
   obtain⟨us,h1,h2,h3⟩:=h;exact⟨us,h1,h2,λi c u g1 g2=>(h3 i c u g1 g2).nw J⟩
  |al r j n =>
   simp only[bt];cases y:keys.any (BJ r)&&BJ (st r).ver n with
   |false=>trivial
   |true =>
    simp only[BC]at y;exact⟨Cu _,λ_=>by rw[a5 r y.1];exact h.2 (BH y.2)⟩
  |bp b off =>
   simp only[bt];cases y:keys.any (BJ b) with
   |false=>trivial
   |true =>
    obtain⟨h1,h2,h3⟩:=h;exact⟨h1,I b y h2,by rw[hβ];exact h3⟩
  |clo f O =>
   simp only[bt];cases y:O.all (λb=>keys.any (BJ b)) with
   |false=>trivial
   |true =>
    obtain⟨h1,h2⟩:=h;rw[BX]at y;exact⟨by rw[hβ];exact h1,λb Z=>⟨(h2 b Z).1,I b (y b Z) (h2 b Z).2⟩⟩
  |_=>simp only[bt];trivial
 |own p E e =>
  cases M with
  |nil =>
   have hv:v=.slice none 0 0:=h;subst hv;rw[a0 rfl];exact OwH.nil w _ E e
  |own q hh E' e' xs =>
   cases hh with
   |some x=>simp only[bt];trivial
   |none =>
    simp only[bt];cases y:(!q||p) with
    |false=>trivial
    |true =>
     rw[a1 trivial];exact OwH.carry h (H p q y) (λ_ _=>rfl) (λ_ _=>rfl)
  |_=>simp only[bt];trivial
 |ro p E e =>
  cases M with
  |nil =>
   have hv:v=.slice none 0 0:=h;subst hv;exact Rd.nil w _ false E e
  |ro q E' e' xs =>
   simp only[bt];cases y:(!q||p) with
   |false=>trivial
   |true =>
    simp only[cond_true];split
    ·rename_i ys X;exact Rd.castSh (m:=false) (m':=false) (E:=E) X (Rd.mono (H p q y) h)
    ·trivial
  |own q hh E' e' xs =>
   cases hh with
   |some x=>simp only[bt];trivial
   |none =>
    have a6:=a2 trivial (by
     simp only[bt];cases (!q||p) with
     |false=>exact id
     |true=>simp only[cond_true];split <;> exact id) ⟨p,E,e,rfl⟩
    simp only[bt];cases y:(!q||p) with
    |false=>trivial
    |true =>
     simp only[cond_true];split
     ·rename_i ys X;refine Rd.castSh (m:=false) (m':=false) (E:=E) (E':=E') X (Rd.mono (λk z=>?_) (OwH.rd (m:=false) (E':=E') h));rcases z with z|z
      ·exact H p q y k z
      ·exact .inl (a6 k z)
     ·trivial
  |_=>simp only[bt];trivial
 |rp p =>
  cases M with
  |rpp q a x =>
   simp only[bt];cases y:(!q||p) with
   |false=>trivial
   |true =>
    obtain⟨b,ob,g,o',c,hv,a4,Y,hg,hr,X⟩:=h;exact⟨b,ob,g,o',c,hv,a4.imp (J b) id,Y,hg.imp (J g) id,Rd.mono (H p q y) hr,X⟩
  |rp q a x off =>
   simp only[bt];cases y:(!q||p) with
   |false=>trivial
   |true =>
    obtain⟨g,o',c,hv,hg,hr,X⟩:=h;exact⟨g,o',c,hv,hg.imp (J g) id,Rd.mono (H p q y) hr,X⟩
  |_=>simp only[bt];trivial
open Classical in
theorem vf (_hV:ay V){a:Act}{w:World}(h:Rel P V st a w)(live:List (Nat×List Coe))(a5:∀ x∈V.fixb,x.1∈live.map (·.1)):Rel P V (lL live st) a w:=by
 obtain⟨W,h⟩:=h;have J:=Ap (st:=st) live;have Z:∀ b,Go.Proofs.YtaelpfghkndliaaGreatEv.live (lL live st) b->Go.Proofs.YtaelpfghkndliaaGreatEv.live st b:=by
  rintro b ⟨H,z⟩;rcases J b with ⟨e,_⟩|⟨cs,e,_⟩
  ·rw[e]at z;cases z
  ·rw[e]at z;exact⟨H,z⟩
 have a2:∀ (q j:Nat) (l:Leaf),(lL live st q).ls[j]?=some l->q∈live.map (·.1)/\∃ r,(st q).ls[j]?=some r/\(l=.dead\/∃ c,l=bt st (live.map (·.1)) c r):=by
  intro q j l Y;rcases J q with ⟨e,_⟩|⟨cs,e,I⟩
  ·rw[e]at Y;simp[bT.none]at Y
  ·rw[e]at Y;exact⟨I,pg _ _ _ _ _ Y⟩
 have b4:∀ (q j:Nat) (l:Leaf),(lL live st q).ls[j]?=some l->ap l->∃ r,(st q).ls[j]?=some r/\(ap r\/r=.nil):=by
  intro q j l Y ho;obtain⟨_,r,H,z⟩:=a2 q j l Y;rcases z with rfl|⟨c,rfl⟩
  ·exact ho.elim
  ·exact⟨r,H,xR ho⟩
 have a0:∀ b,(live.map (·.1)).any (BJ b)=true->b∈live.map (·.1):=λb O=>by
  rw[CH]at O;obtain⟨x,hx,he⟩:=O;rw[BH he];exact hx
 let y:Nat->Nat->List Nat:=λq j=>if (∃ r,(st q).ls[j]?=some r/\ap r) then W.bs q j else []
 let a1:Nat->Prop:=λk=>W.nw k\/∃ q j r l,(st q).ls[j]?=some r/\ap r/\(lL live st q).ls[j]?=some l/\¬ ap l/\k∈W.bs q j
 have X:∀ (q j k:Nat),k∈y q j->(∃ r,(st q).ls[j]?=some r/\ap r)/\k∈W.bs q j:=by
  intro q j k M;by_cases hc:∃ r,(st q).ls[j]?=some r/\ap r
  ·simp only[y,if_pos hc]at M;exact⟨hc,M⟩
  ·simp only[y,if_neg hc]at M;simp at M
 refine⟨{ β:=W.β,cs:=λq=>if q∈live.map (·.1) then W.cs q else [],bs:=y,nw:=a1 },?_⟩
 exact {
  nt:=h.nt,df:=h.df
  slots:=λt ht=>by
   rcases J t with ⟨e,I⟩|⟨cs,e,I⟩
   ·rw[e];simp[I,bT.none,ee]
   ·rw[e];simp only[I,if_true];exact h.slots t ht
  boxes:=λb O=>by
   rcases J b with ⟨e,I⟩|⟨cs,e,I⟩
   ·rw[e];exact .inl ⟨rfl,rfl⟩
   ·rw[e];rcases h.boxes b O with ⟨H,z⟩|⟨H,E,z⟩
    ·exact .inl ⟨H,by rw[z];exact List.eq_nil_of_length_eq_zero (by rw[kM];rfl)⟩
    ·exact .inr ⟨H,E,by simp only[I,if_true];exact z⟩
  len:=λq=>by
   rcases J q with ⟨e,I⟩|⟨cs,e,I⟩
   ·rw[e];simp[I,bT.none]
   ·rw[e];simp only[I,if_true,kM];exact h.len q
  one:=λq u hu=>by
   by_cases I:q∈live.map (·.1)
   ·simp only[I,if_true]at hu;exact h.one q u hu
   ·simp only[I,if_false]at hu;simp at hu
  leaf:=λq j l v Y hv=>by
   obtain⟨I,r,H,z⟩:=a2 q j l Y;simp only[I,if_true]at hv;have ab:=h.leaf q j r v H hv;rcases z with rfl|⟨c,rfl⟩
   ·trivial
   ·refine ww (st:=st) (W:=W) (W':={ β:=W.β,cs:=λq=>if q∈live.map (·.1) then W.cs q else [],bs:=y,nw:=a1 }) (keys:=live.map (·.1)) ab (λk M=>Or.inl M) rfl (λq hq=>if_pos (a0 q hq)) ?_ ?_ ?_ ?_
    ·intro b O a4;have b2:=a0 b O;rcases J b with ⟨_,ad⟩|⟨cs,e,_⟩
     ·exact absurd b2 ad
     ·rw[e];exact a4
    ·intro ho;show y q j=_;simp only[y,if_pos (⟨r,H,ho⟩:∃ r,(st q).ls[j]?=some r/\ap r)]
    ·intro e;show y q j=_;have hc:¬ ∃ r,(st q).ls[j]?=some r/\ap r:=by
      rintro⟨l1,h3,h4⟩;rw[H,e]at h3;cases h3;exact h4.elim
     simp only[y,if_neg hc]
    ·intro ho hn _ k M;exact .inr ⟨q,j,r,_,H,ho,Y,hn,M⟩
  ownb:=λq j l Y ho k M=>by
   obtain⟨⟨r,H,z⟩,h3⟩:=X q j k M;obtain⟨q1,q2,q3⟩:=h.ownb q j r H z k h3;refine⟨?_,q2,λb O=>q3 b (Z b O)⟩;rintro (hn|⟨q',j',l1,l2,h4,h5,h6,h7,h8⟩)
   ·exact q1 hn
   ·obtain⟨rfl,rfl⟩:=h.sep q j r q' j' l1 H z h4 h5 k h3 h8;rw[Y]at h6;cases h6;exact h7 ho
  sep:=λq j l q' j' l' _ _ _ _ k M b0=>by
   obtain⟨⟨r,H,z⟩,h3⟩:=X q j k M;obtain⟨⟨a3,b3,b1⟩,a9⟩:=X q' j' k b0;exact h.sep q j r q' j' a3 H z b3 b1 k h3 a9
  box:=λb O=>by
   obtain⟨q1,q2⟩:=h.box b (Z b O);refine⟨?_,q2⟩;rintro (hn|⟨q',j',l1,l2,h4,h5,h6,h7,h8⟩)
   ·exact q1 hn
   ·exact (h.ownb q' j' l1 h4 h5 _ h8).2.2 b (Z b O) rfl
  inj:=λb b' O a6=>h.inj b b' (Z b O) (Z b' a6)
  nwlt:=λk M=>by
   rcases M with hn|⟨q',j',l1,l2,h4,h5,h6,h7,h8⟩
   ·exact h.nwlt k hn
   ·exact⟨h.own_lt h4 h5 k h8,(h.ownb q' j' l1 h4 h5 k h8).2.1⟩
  os:=h.os,tape:=h.tape,output:=h.output,size:=h.size,keep:=h.keep
  fixb:=λx hx=>by
   obtain⟨⟨H,z⟩,h3⟩:=h.fixb x hx;refine⟨⟨H,?_⟩,h3⟩;rcases J x.1 with ⟨_,I⟩|⟨cs,e,_⟩
   ·exact absurd (a5 x hx) I
   ·rw[e];exact z
  fixt:=h.fixt }
def exOf:Ex->Exit
 |.normal=>.normal
 |.exit id=>.exit id
 |.ret=>.ret
theorem mu {nt:Nat}{fix:List Nat}(u:V.nt=nt)(r:∀ x∈V.fixt,x.1∈fix)(h:ln nt fix all o=true):bN V o:=by
 intro d y;simp only[ln,y,BC,B5,CR]at h;obtain⟨⟨H,z⟩,_⟩:=h;refine⟨by rw[u];simpa[CD]using H,λx I e=>?_⟩;exact z _ (r x I) (by simp[e])
end
section
variable {P:Program} {V:Env} {Γ:List Ctr} {T:TypeId->TI} {R:Type}
open Classical in
theorem tL {Q:Exit->Act->World->Prop}{a:Act}{w:World}{c:Code}(J:Nat->Act->World->Prop)(h0:∃ n,J n a w)(hz:∀ a w,¬ J 0 a w)
  (y:∀ n a w,J (n+1) a w->c.wp P (Exit.then (J n) Q) a w):(Code.loop c).wp P Q a w:=by
 have u:∀ (a:Act) (w:World) (n:Nat),J n a w->∃ m,J m a w/\m<=n/\∀ k,J k a w->m<=k:=by
  intro a w n;induction n using Cx with
  |ind n ih =>
   intro H;by_cases h:∃ k,k<n/\J k a w
   ·obtain⟨k,I,hJ⟩:=h;obtain⟨m,r,M,O⟩:=ih k I hJ;exact⟨m,r,by omega,O⟩
   ·refine⟨n,H,Cb _,λk I=>?_⟩;apply Bt;intro a0;exact h ⟨k,by omega,I⟩
 let z:Act->World->Nat:=λa w=>if h:∃ m,J m a w/\∀ k,J k a w->m<=k then h.choose else 0
 have hμ:∀ a w n,J n a w->J (z a w) a w/\z a w<=n:=by
  intro a w n H;obtain⟨m,r,_,O⟩:=u a w n H;have h:∃ m,J m a w/\∀ k,J k a w->m<=k:=⟨m,r,O⟩;have e:z a w=h.choose:=by simp only[z];rw[dif_pos h]
  rw[e];exact⟨h.choose_spec.1,h.choose_spec.2 n H⟩
 refine wp_loop (λa w=>∃ n,J n a w) z h0 λa w ⟨n,H⟩=>?_
 obtain⟨r,_⟩:=hμ a w n H;cases hm:z a w with
 |zero=>rw[hm]at r;exact absurd r (hz a w)
 |succ m =>
  rw[hm]at r;refine wp_mono (y m a w r) λe Z Y X=>?_
  cases e with
  |normal =>
   have M:J m Z Y:=X;exact⟨⟨m,M⟩,Nat.lt_succ_of_le (hμ Z Y m M).2⟩
  |_=>exact X
theorem yZ {st:St}{a:Act}{w:World}(u:Rel P V st a w){t:Nat}(y:t<GH){b:Bool}(I:(st t).sh=.one)(z:(st t).ls=[.bool b]):a.eval (.tmp t)=.bool b:=by
 obtain⟨W,u⟩:=u;have r:=u.slots t y;rw[I]at r;have r:W.cs t=[a.tmps.getD t undef]:=r;have H:=u.leaf t 0 (.bool b) (a.tmps.getD t undef) (by rw[z];rfl) (by rw[r];rfl);exact H
theorem sf (hV:ay V)(hT:TOk P T)(hΓ:∀ c∈Γ,bP P c)(a3:P.follows .mixedOrders=true){fx:List Nat}(a5:∀ x∈V.fixb,x.1∈fx){nt:Nat}{fix:List Nat}(a1:V.nt=nt)(a4:∀ x∈V.fixt,x.1∈fix)
  {L:List (Nat×List (Nat×List Coe))} {O:Nat}:∀ (c:Code),dP nt fix c=true->dp L fx c=true->∀ (st:St) (I:Ex->St->Option R) (r:R) (Q:Exit->Act->World->Prop),evK Γ T L O c st I=some r ->
   (∀ ex J,I ex J=some r->∀ a w,Rel P V J a w->Q (exOf ex) a w)->∀ a w,Rel P V st a w->c.wp P Q a w:=by
 intro c;induction c with
 |skip=>exact λ_ _ st I r Q h z a w u=>wp_skip (z .normal st h a w u)
 |region id a2 a9 =>
  intro hc hlp st I r Q h z a w u;simp only[dP,BX]at hc;have a0:∀ (i:Nat) (o:Oper),a2[i]?=some o->ln nt fix a2 o=true:=λi o hi=>hc o (by simpa using CZ hi)
  refine Bi hV hT hΓ a3 (λi o hi=>mu a1 a4 (a0 i o hi)) (λi o hi j a6 hg s hs=>?_) h (λJ H a w u=>z .normal J H a w u) u;have:=a0 i o hi;simp only[ln,hg,hs,BC]at this;rw[a1];simpa[CD]using this.2
 |seq x y Z Y =>
  intro hc hlp st I r Q h z a w u;simp only[dP,BC]at hc;simp only[dp,BC]at hlp;simp only[evK]at h;refine wp_seq (Z hc.1 hlp.1 st _ r _ h (λex J H a w u=>?_) a w u);cases ex with
  |normal=>exact Y hc.2 hlp.2 J I r Q H z a w u
  |exit id=>exact z (.exit id) J H a w u
  |ret=>exact z .ret J H a w u
 |cond t x y Z Y =>
  intro hc hlp st I r Q h z a w u;simp only[dP,BC]at hc;simp only[dp,BC]at hlp;simp only[evK]at h;unfold zg at h;split at h
  ·rename_i t;split at h
   ·rename_i b H h2;have hv:=yZ u (Cl (by have:=hc.1.1;simp only[wD,CD]at this;rw[a1];exact this) hV.nt) H h2;cases b with
    |true =>
     simp only[cond_true]at h;rw[pe H h2]at h;exact wp_cond_true hv (Z hc.1.2 hlp.1 st I r Q h z a w u)
    |false =>
     simp only[cond_false]at h;rw[pe H h2]at h;exact wp_cond_false hv (Y hc.2 hlp.2 st I r Q h z a w u)
   ·cases h
  ·rename_i b;cases b with
   |true=>exact wp_cond_true rfl (Z hc.1.2 hlp.1 st I r Q h z a w u)
   |false=>exact wp_cond_false rfl (Y hc.2 hlp.2 st I r Q h z a w u)
  ·cases h
 |block id c ih =>
  intro hc hlp st I r Q h z a w u;simp only[dP]at hc;simp only[dp]at hlp;simp only[evK]at h;refine wp_block (ih hc hlp st _ r _ h (λex J H a w u=>?_) a w u);cases ex with
  |normal=>exact z .normal J H a w u
  |exit M =>
   simp only[sk]at H;show if M=id then Q .normal a w else Q (.exit M) a w
   by_cases e:M=id
   ·rw[if_pos e];subst e;simp only[Nat.beq_refl,cond_true]at H;exact z .normal J H a w u
   ·rw[if_neg e];have hb:BJ M id=false:=by
     cases hb:BJ M id with
     |false=>rfl
     |true=>exact absurd (BH hb) e
    rw[hb]at H;exact z (.exit M) J H a w u
  |ret=>exact z .ret J H a w u
 |loop c ih =>
  intro hc hlp st I r Q h z a w u;simp only[dP]at hc;simp only[dp,BC,BX]at hlp;simp only[evK]at h;have X:∀ x∈V.fixb,x.1∈(lm L (eO c)).map (·.1):=λx hx=>by
   obtain⟨r,u,he⟩:=CH.1 (hlp.1 x.1 (a5 x hx));exact BL.2 ⟨r,u,BH he⟩
  refine tL (λn a w=>∃ st,aW (lm L (eO c)) (evK Γ T L O c) n st I=some r/\Rel P V st a w) ⟨O,_,h,vf hV u _ X⟩ ?_ ?_
  ·rintro a w ⟨st,H,_⟩;cases H
  ·rintro n a w ⟨st,H,u⟩;simp only[aW]at H;refine ih hc hlp.2 st _ r _ H (λex J h2 a w u=>?_) a w u;cases ex with
   |normal=>exact⟨_,h2,vf hV u _ X⟩
   |exit id=>exact z (.exit id) J h2 a w u
   |ret=>exact z .ret J h2 a w u
 |exit id=>exact λ_ _ st I r Q h z a w u=>wp_exit (z (.exit id) st h a w u)
 |ret=>exact λ_ _ st I r Q h z a w u=>wp_ret (z .ret st h a w u)
 |_=>intro _ _ st I r Q h;simp[evK]at h
end
section
variable {P:Program} {Γ:List Ctr} {T:TypeId->TI} {R:Type} {w:World} {ro pr:Nat->Prop}
theorem iY {G:Nat->Prop}{p:Bool}:∀ {b:Ty} {h:Option Nat} {pos:Nat} {x:b.den} {cs:List Value} {bs:List Nat},Mx w G b h pos x cs bs->bs.Nodup ->
  ∃ a3:Nat->List Nat,
   (∀ (V:Env) (W:Wit) (st:St),(∀ k,G k->gd V W p k)->∀ (j:Nat) (l:Leaf) (u:Value),h≠some (pos+j)->(ar p b x)[j]?=some l->cs[j]?=some u->aK P V W st w (a3 j) l u) /\
   (∀ (j:Nat) (l:Leaf),h≠some (pos+j)->(ar p b x)[j]?=some l->ap l->∀ k∈a3 j,k∈bs) /\
   (∀ (j J:Nat) (l l':Leaf),h≠some (pos+j)->h≠some (pos+J)->(ar p b x)[j]?=some l->ap l->(ar p b x)[J]?=some l'->ap l'->∀ k,k∈a3 j->k∈a3 J->j=J)
 |.int k,_,_,x,cs,bs,H,_=>by
  obtain⟨rfl,rfl⟩:=H;exact⟨λ_=>[],λV W st _ j l u _ y X=>by cases j with|zero=>simp[ar]at y X;subst y;subst X;rfl|succ j=>simp[ar]at y,λj l _ y _ k r=>by simp at r,λj J l l' _ _ _ _ _ _ k r=>by simp at r⟩
 |.bool,_,_,x,cs,bs,H,_=>by
  obtain⟨rfl,rfl⟩:=H;exact⟨λ_=>[],λV W st _ j l u _ y X=>by cases j with|zero=>simp[ar]at y X;subst y;subst X;rfl|succ j=>simp[ar]at y,λj l _ y _ k r=>by simp at r,λj J l l' _ _ _ _ _ _ k r=>by simp at r⟩
 |.str,_,_,x,cs,bs,H,_=>by
  obtain⟨rfl,rfl⟩:=H;exact⟨λ_=>[],λV W st _ j l u _ y X=>by cases j with|zero=>simp[ar]at y X;subst y;subst X;rfl|succ j=>simp[ar]at y,λj l _ y _ k r=>by simp at r,λj J l l' _ _ _ _ _ _ k r=>by simp at r⟩
 |.unit,_,_,x,cs,bs,H,_=>by
  obtain⟨rfl,rfl⟩:=H;exact⟨λ_=>[],λV W st _ j l u _ y X=>by simp[ar]at y,λj l _ y _ k r=>by simp at r,λj J l l' _ _ _ _ _ _ k r=>by simp at r⟩
 |.hdr,_,_,x,cs,bs,H,_=>by
  obtain⟨⟨A,a9,rfl⟩,rfl⟩:=H;exact⟨λ_=>[],λV W st _ j l u _ y X=>by cases j with|zero=>simp[ar]at y X;subst y;subst X;exact⟨A,a9,rfl⟩|succ j=>simp[ar]at y,λj l _ y _ k r=>by simp at r,λj J l l' _ _ _ _ _ _ k r=>by simp at r⟩
 |.pair b c,h,pos,x,cs,bs,⟨c1,c2,b1,b2,e1,e2,y,X⟩,Z=>by
  subst e1;subst e2;rw[B8]at Z;obtain⟨d1,f2,f3,f4⟩:=iY y Z.1;obtain⟨d2,g2,g3,g4⟩:=iY X Z.2.1;have ab:=cJ p b x.1;have ad:=y.len;have I:∀ (j:Nat) (l:Leaf),(ar p b x.1++ar p c x.2)[j]?=some l->(j<b.cells/\(ar p b x.1)[j]?=some l)\/(b.cells<=j/\(ar p c x.2)[j-b.cells]?=some l):=by
   intro j l z;by_cases O:j<b.cells
   ·rw[Bs (by omega)]at z;exact .inl ⟨O,z⟩
   ·rw[BZ (by omega),ab]at z;exact .inr ⟨by omega,z⟩
  have a1:∀ j,b.cells<=j->h≠some (pos+j)->h≠some (pos+b.cells+(j-b.cells)):=λj z hh=>by rwa [show pos+b.cells+(j-b.cells)=pos+j by omega]
  refine⟨λj=>if j<b.cells then d1 j else d2 (j-b.cells),λV W st hG j l u hh z hu=>?_,λj l hh z ho k r=>?_,λj J l l' hh a4 z ho Y a2 k r M=>?_⟩
  ·rcases I j l z with ⟨O,z⟩|⟨a0,z⟩
   ·rw[Bs (by omega)]at hu;simp only[if_pos O];exact f2 V W st hG j l u hh z hu
   ·rw[BZ (by omega),ad]at hu;simp only[if_neg (show ¬ j<b.cells by omega)];exact g2 V W st hG _ l u (a1 j a0 hh) z hu
  ·rcases I j l z with ⟨O,z⟩|⟨a0,z⟩
   ·simp only[if_pos O]at r;exact BD _ (f3 j l hh z ho k r)
   ·simp only[if_neg (show ¬ j<b.cells by omega)]at r;exact BE _ (g3 _ l (a1 j a0 hh) z ho k r)
  ·rcases I j l z with ⟨O,z⟩|⟨a0,z⟩ <;> rcases I J l' Y with ⟨a6,Y⟩|⟨a5,Y⟩
   ·simp only[if_pos O]at r;simp only[if_pos a6]at M;exact f4 j J l l' hh a4 z ho Y a2 k r M
   ·simp only[if_pos O]at r;simp only[if_neg (show ¬ J<b.cells by omega)]at M;exact absurd rfl (Z.2.2 k (f3 j l hh z ho k r) k (g3 _ l' (a1 J a5 a4) Y a2 k M))
   ·simp only[if_neg (show ¬ j<b.cells by omega)]at r;simp only[if_pos a6]at M;exact absurd rfl (Z.2.2 k (f3 J l' a4 Y a2 k M) k (g3 _ l (a1 j a0 hh) z ho k r))
   ·simp only[if_neg (show ¬ j<b.cells by omega)]at r;simp only[if_neg (show ¬ J<b.cells by omega)]at M;have:=g4 _ _ l l' (a1 j a0 hh) (a1 J a5 a4) z ho Y a2 k r M;omega
 |.list m E e,h,pos,xs,cs,bs,H,Z=>by
  cases m with
  |false =>
   rw[cq]at H;obtain⟨rfl,A,a9,rfl,X,h3⟩:=H;refine⟨λ_=>[],λV W st hG j l u _ y h4=>?_,λj l _ y _ k r=>by simp at r,λj J l l' _ _ _ _ _ _ k r=>by simp at r⟩;cases j with
   |zero =>
    simp[ar]at y h4;subst y;subst h4;exact Rd.mono hG (⟨A,a9,rfl,X,h3⟩:Rd w G (.list false E e) xs _)
   |succ j=>simp[ar]at y
  |true =>
   refine⟨λ_=>bs,λV W st hG j l u hh y h4=>?_,λj l _ y _ k r=>r,λj J l l' _ _ y _ h3 _ k _ _=>?_⟩
   ·cases j with
    |zero =>
     rw[Nat.add_zero]at hh;rw[bH hh]at H;obtain⟨v,rfl,hO⟩:=H;simp[ar]at y h4;subst y;subst h4;exact⟨Z,OwB.shy (hO.carry hG (λ_ _=>rfl) (λ_ _=>rfl))⟩
    |succ j=>simp[ar]at y
   ·have h7:j<1:=by simpa[ar]using (BK.1 y).1
    have h8:J<1:=by simpa[ar]using (BK.1 h3).1
    omega
theorem mv {p:Bool}{off:Nat}:∀ {a:Ty} {pos:Nat} {x:a.den} {E:TypeId} {e:Ty} {xs:List e.den},bd off a pos x=some ⟨E,e,xs⟩->(ar p a x)[off-pos]?=some (.own (p&&e.shy) none E e xs)
 |.pair a b,pos,x,E,e,xs,h=>by
  have H:=cJ p a x.1;simp only[bd]at h;simp only[ar];split at h
  ·rename_i u z;simp only[BA]at h;subst h;have y:=gy z;rw[Bs (by omega)];exact mv z
  ·have y:=gy h;rw[BZ (by omega),H,show off-pos-a.cells=off-(pos+a.cells) by omega];exact mv h
 |.list m I M,pos,J,E,e,xs,h=>by
  simp only[bd]at h;cases r:m&&BJ pos off with
  |false=>simp[r]at h
  |true =>
   rw[r]at h;simp only[cond_true,BA,Sigma.mk.injEq]at h;obtain⟨rfl,h⟩:=h;simp only[BC]at r;obtain⟨rfl,r⟩:=r;have r:=BH r;subst r;rw[heq_eq_eq,Sigma.mk.injEq]at h;obtain⟨rfl,h⟩:=h;rw[heq_eq_eq]at h;subst h;simp[ar]
 |.int _,_,_,_,_,_,h=>by simp[bd]at h
 |.bool,_,_,_,_,_,h=>by simp[bd]at h
 |.str,_,_,_,_,_,h=>by simp[bd]at h
 |.unit,_,_,_,_,_,h=>by simp[bd]at h
 |.hdr,_,_,_,_,_,h=>by simp[bd]at h
theorem tM (V:Env)(W:Wit)(I:V.ro0=ro)(r:V.prot=pr):∀ {cs:List (Bool×Ty)} {x:lG cs} {us:List Value},jA w ro pr cs x us->us.length=(jO true cs x).length /\
  ∀ (i:Nat) (c:Bool×Bool×(a:Ty)×a.den) (u:Value),(jO true cs x)[i]?=some c->us[i]?=some u->iM V W w c u
 |[],_,us,h=>by
  have h:us=[]:=h;subst h;exact⟨rfl,λi c u z _=>by simp[jO]at z⟩
 |c::cs,x,us,⟨u,a0,e,z,h2⟩=>by
  subst e;obtain⟨i1,i2⟩:=tM V W I r h2;refine⟨by simp[jO,i1],λi c' u' h3 O=>?_⟩;cases i with
  |succ i=>exact i2 i c' u' (by simpa[jO]using h3) (by simpa using O)
  |zero =>
   simp[jO]at h3 O;subst h3;subst O;have hG:∀ k,ro k->gd V W true k:=λk hk=>.inr ⟨rfl,by rw[I];exact hk⟩
   unfold iM;unfold gQ at z;split at z
   ·rename_i H;simp only[H,if_true];obtain⟨b,ob,g,o,Y,Z,X,y,hg,M,J⟩:=z;exact⟨b,ob,g,o,Y,Z,.inr (by rw[r];exact X),y,.inr (by rw[r];exact hg),M.mono hG,J⟩
   ·rename_i H;have H:c.1=false:=by simpa using H
    simp only[H,CL,if_false];obtain⟨g,o,Y,Z,hg,M,J⟩:=z;exact⟨g,o,Y,by rw[Z];rfl,.inr (by rw[r];exact hg),M.mono hG,J⟩
structure Ent where
 r:Nat
 c:bT
 cs:List Value
 bs:Nat->List Nat
 bl:List Nat
 g:Nat
structure qg (P:Program) (w:World) (ro pr:Nat->Prop) (bx:List (Nat×Nat)) (e:Ent):Prop where
 len:e.c.ls.length=e.cs.length
 one:∀ u∈e.cs,u.oneCell'=true
 leaf:∀ (V:Env) (W:Wit) (st:St),V.w0=w->V.ro0=ro->V.prot=pr->(∀ z∈bx,B0<=z.1/\(st z.1).sh=.agg/\W.β z.1=z.2)->∀ (j:Nat) (l:Leaf) (u:Value),e.c.ls[j]?=some l->e.cs[j]?=some u->aK P V W st w (e.bs j) l u
 own:∀ (j:Nat) (l:Leaf),e.c.ls[j]?=some l->ap l->∀ k∈e.bs j,k∈e.bl
 sep:∀ (j j':Nat) (l l':Leaf),e.c.ls[j]?=some l->ap l->e.c.ls[j']?=some l'->ap l'->∀ k,k∈e.bs j->k∈e.bs j'->j=j'
 box:B0<=e.r->e.c.sh=.agg/\e.g∈e.bl/\(∀ (j:Nat) (l:Leaf),e.c.ls[j]?=some l->ap l->e.g∉e.bs j)/\(∃ E,w.heap[e.g]?=some (.cells e.cs.toArray E (0,0)))/\(e.r,e.g)∈bx
theorem qg.mono {y r:List (Nat×Nat)}{e:Ent}(h:qg P w ro pr y e)(u:∀ z∈y,z∈r):qg P w ro pr r e :=
  { len:=h.len,one:=h.one,own:=h.own,sep:=h.sep
    leaf:=λV W M Y X h3 Z=>h.leaf V W M Y X h3 (λz J=>Z z (u z J))
    box:=λO=>by obtain⟨I,q2,q3,q4,H⟩:=h.box O;exact⟨I,q2,q3,q4,u _ H⟩ }
structure wz (P:Program) (w:World) (ro pr:Nat->Prop) (t:Nat) (pk:PK) (v:Value) (b:List Nat) (bx:List (Nat×Nat)) (es:List Ent):Prop where
 bl:es.flatMap (·.bl)=b
 ok:∀ e∈es,qg P w ro pr bx e
 at_:∀ e∈es,e.r=t\/e.r=B0+t
 nod:(es.map (·.r)).Nodup
 slot:∃ e∈es,e.r=t/\ee e.c.sh v e.cs
 bxs:∀ z∈bx,z.1=B0+t/\(∃ e∈es,e.r=B0+t/\e.g=z.2)
theorem tN (t n:Nat){a:Ty}{x:a.den}{v:Value}{cs:List Value}{b:List Nat}(J:b.Nodup)(h1:da a.isAgg v cs)(I:Mx w ro a none 0 x cs b)(a0:t<B0) :
    ∃ X,wz P w ro pr t (.own a) v b [] X/\[((t,⟨n,bg a.isAgg,ar true a x⟩):Nat×bT)]=X.map (λe=>(e.r,e.c)):=by
  obtain⟨M,m1,m2,m3⟩:=iY (P:=P) (p:=true) I J;have H:∀ j,(none:Option Nat)≠some (0+j):=λj=>by simp
  refine⟨[⟨t,⟨n,bg a.isAgg,ar true a x⟩,cs,M,b,0⟩],⟨by simp,?_,by simp,by simp,⟨_,BV _,rfl,j8 h1⟩,by simp⟩,rfl⟩;intro e Y;simp only[By]at Y;subst Y
  exact { len := by show (ar true a x).length = _; rw [cJ, I.len]
          one:=I.one
          leaf:=λV W st _ O _ _ j l u z y=>m1 V W st (λk hk=>.inr ⟨rfl,by rw[O];exact hk⟩) j l u (H j) z y
          own:=λj l z y=>m2 j l (H j) z y
          sep:=λj Z l l' z y h5 h6=>m3 j Z l l' (H j) (H Z) z y h5 h6
          box:=λhr=>absurd hr (by show ¬ B0<=t;omega) }
theorem nU (t:Nat){l:Leaf}{v:Value}{pk:PK}(a0:t<B0)(I:¬ ap l)(h1:v.oneCell'=true)(z:∀ (V:Env) (W:Wit) (st:St),V.w0=w->V.ro0=ro->V.prot=pr->aK P V W st w [] l v) :
    ∃ Z,wz P w ro pr t pk v [] [] Z/\[((t,⟨0,.one,[l]⟩):Nat×bT)]=Z.map (λe=>(e.r,e.c)):=by
  refine⟨[⟨t,⟨0,.one,[l]⟩,[v],λ_=>[],[],0⟩],⟨by simp,?_,by simp,by simp,⟨_,BV _,rfl,rfl⟩,by simp⟩,rfl⟩;intro e he;simp only[By]at he;subst he;have M:∀ (j:Nat) (y:Leaf),[l][j]?=some y->j=0/\y=l:=λj y O=>by
    cases j with
    |zero=>simp at O;exact⟨rfl,O.symm⟩
    |succ j=>simp at O
  exact { len := rfl
          one:=λu hu=>by simp at hu;subst hu;exact h1
          leaf:=λV W st hw Y X _ j y u J H=>by
            obtain⟨rfl,rfl⟩:=M j y J;simp at H;subst H;exact z V W st hw Y X
          own:=λj y J H=>by obtain⟨_,rfl⟩:=M j y J;exact absurd H I
          sep:=λj j' l1 l2 J H=>by obtain⟨_,rfl⟩:=M j l1 J;exact absurd H I
          box:=λhr=>absurd hr (by show ¬ B0<=t;omega) }
def tO:Value->Nat
 |.pointer (some a)=>a.block
 |_=>0
def d8 (t:Nat):List PK->List Value->List (Nat×Nat)
 |.iop _::u,v::r=>(B0+t,tO v)::d8 (t+1) u r
 |_::u,_::r=>d8 (t+1) u r
 |_,_=>[]
def d9 (t:Nat):List PK->List Value->List (Nat×Value)
 |.io _::u,v::r=>(t,v)::d9 (t+1) u r
 |.iop _::u,v::r=>(t,v)::d9 (t+1) u r
 |_::u,_::r=>d9 (t+1) u r
 |_,_=>[]
def PK.bx (t:Nat)(v:Value):PK->List (Nat×Nat)
 |.iop _=>[(B0+t,tO v)]
 |_=>[]
theorem Bj (t:Nat)(a0:t<B0){pk:PK}{ps:List PK}{x:ac (pk::ps)}{v:Value}{b:List Nat}(a1:b.Nodup)(h:nR P w ro pr pk x.1 v b) :
    ∃ es,wz P w ro pr t pk v b (pk.bx t v) es/\dj t (pk::ps) x=es.map (λe=>(e.r,e.c))++dj (t+1) ps x.2:=by
  cases pk with
  |rd a =>
    obtain⟨rfl,cs,h1,h2⟩:=h;refine⟨[⟨t,⟨0,bg a.isAgg,cK true a x.1⟩,cs,λ_=>[],[],0⟩],⟨by simp,?_,by simp,by simp,⟨_,BV _,rfl,j8 h1⟩,by simp[PK.bx]⟩,rfl⟩;intro e he;simp only[By]at he;subst he;have b2:∀ (V:Env) (W:Wit) (st:St),V.ro0=ro->aD P V W st w (cK true a x.1) cs:=λV W st I=>eT (G:=ro) (λk J=>.inr ⟨rfl,by rw[I];exact J⟩) h2
    have ab:∀ (j:Nat) (l:Leaf),(cK true a x.1)[j]?=some l->¬ ap l:=λj l M=>by
      have hl:=gL true a x.1;have hc:=h2.len;have bn:=(BK.1 M).1;exact ((b2 ⟨w,ro,[],0,[],[]⟩ ⟨λ_=>0,λ_=>[],λ_ _=>[],λ_=>False⟩ (λ_=>bT.none) rfl).at_ j l _ M (BR (by omega))).2.1
    exact { len := by show (cK true a x.1).length = _; rw [gL, h2.len]
            one:=h2.one
            leaf:=λV W st _ I _ _ j l u y H=>((b2 V W st I).at_ j l u y H).1
            own:=λj l y H=>absurd H (ab j l y)
            sep:=λj j' l l' y H=>absurd H (ab j l y)
            box:=λhr=>absurd hr (by show ¬ B0<=t;omega) }
  |own a =>
    obtain⟨cs,h1,h2⟩:=h;obtain⟨es,y,H⟩:=tN (P:=P) (pr:=pr) t 0 a1 h1 h2 a0;exact⟨es,⟨y.bl,y.ok,y.at_,y.nod,y.slot,y.bxs⟩,by rw[<- H];rfl⟩
  |io a =>
    obtain⟨cs,h1,h2⟩:=h;obtain⟨es,y,H⟩:=tN (P:=P) (pr:=pr) t 7 a1 h1 h2 a0;exact⟨es,⟨y.bl,y.ok,y.at_,y.nod,y.slot,y.bxs⟩,by rw[<- H];rfl⟩
  |rref a =>
    obtain⟨rfl,h⟩:=h;unfold gQ at h;rw[if_neg (by simp)]at h;obtain⟨g,o,c,hv,hg,hr,hc⟩:=h;subst hv;obtain⟨es,y,H⟩:=nU (P:=P) (w:=w) (ro:=ro) (pr:=pr) t (pk:=.rref a) (l:=.rp true a x.1 0) (v:=.pointer (some ⟨g,o,none⟩)) a0 id rfl (λV W st hw I X=>⟨g,o,c,rfl,.inr (by rw[X];exact hg),hr.mono (λk J=>.inr ⟨rfl,by rw[I];exact J⟩),hc⟩);exact⟨es,y,by rw[<- H];rfl⟩
  |rref2 a =>
    obtain⟨rfl,h⟩:=h;unfold gQ at h;rw[if_pos rfl]at h;obtain⟨b,ob,g,o,c,hv,hb,a6,hg,hr,hc⟩:=h;subst hv;obtain⟨es,y,H⟩:=nU (P:=P) (w:=w) (ro:=ro) (pr:=pr) t (pk:=.rref2 a) (l:=.rpp true a x.1) (v:=.pointer (some ⟨b,ob,none⟩)) a0 id rfl (λV W st hw I X=>⟨b,ob,g,o,c,rfl,.inr (by rw[X];exact hb),a6,.inr (by rw[X];exact hg),hr.mono (λk J=>.inr ⟨rfl,by rw[I];exact J⟩),hc⟩);exact⟨es,y,by rw[<- H];rfl⟩
  |fn As B =>
    obtain⟨rfl,h⟩:=h;have b9:v.oneCell'=true:=by
      obtain⟨f,bb,e,_⟩:=h;rw[e];rfl
    obtain⟨es,y,H⟩:=nU (P:=P) (w:=w) (ro:=ro) (pr:=pr) t (pk:=.fn As B) (l:=.fn As B x.1) (v:=v) a0 id b9 (λV W st hw I X=>by
      show ic P V.w0 V.prot As B x.1 v;rw[hw,X];exact h)
    exact⟨es,y,by rw[<- H];rfl⟩
  |clo f cs =>
    obtain⟨rfl,us,e,h⟩:=h;subst e;obtain⟨es,y,H⟩:=nU (P:=P) (w:=w) (ro:=ro) (pr:=pr) t (pk:=.clo f cs) (l:=.clr f (jO true cs x.1)) (v:=.func (.func f) #[] us.toArray) a0 id rfl (λV W st hw I X=>by
      obtain⟨i1,i2⟩:=tM V W I X h;exact⟨us,rfl,i1,i2⟩)
    exact⟨es,y,by rw[<- H];rfl⟩
  |iop a =>
    obtain⟨g,c,E,b0,hv,hg,hm,rfl⟩:=h;subst hv;rw[Bz]at a1;obtain⟨a5,m1,m2,m3⟩:=iY (P:=P) (p:=true) hm a1.2;have hn:∀ j,(none:Option Nat)≠some (0+j):=λj=>by simp
    have Z:t≠B0+t:=by simp[B0]
    refine⟨[⟨t,⟨0,.one,[.bp (B0+t) 0]⟩,[.pointer (some ⟨g,0,none⟩)],λ_=>[],[],0⟩,⟨B0+t,⟨0,.agg,ar true a x.1⟩,c,a5,g::b0,g⟩],
      ⟨by simp,?_,λe he=>by simp at he;rcases he with rfl|rfl <;> simp,by rw[BY,BY,C0,Bz];exact⟨by simpa using Z,by simp⟩,⟨_,BG ..,rfl,rfl⟩,λz hz=>?_⟩,rfl⟩
    · intro e he
      simp only[BO,List.not_mem_nil,or_false]at he;rcases he with rfl|rfl
      · have h0:∀ (j:Nat) (l':Leaf),[Leaf.bp (B0+t) 0][j]?=some l'->j=0/\l'=.bp (B0+t) 0:=λj l' M=>by
          cases j with
          |zero=>simp at M;exact⟨rfl,M.symm⟩
          |succ j=>simp at M
        exact { len := rfl
                one:=λu hu=>by simp at hu;subst hu;rfl
                leaf:=λV W st hw I X hb j l' u y H=>by
                  obtain⟨rfl,rfl⟩:=h0 j l' y;simp at H;subst H;obtain⟨q1,q2,q3⟩:=hb (B0+t,g) (BV _);exact⟨q1,q2,by rw[q3]⟩
                own:=λj l' y H=>by obtain⟨_,rfl⟩:=h0 j l' y;exact H.elim
                sep:=λj j' l1 l2 y H=>by obtain⟨_,rfl⟩:=h0 j l1 y;exact H.elim
                box:=λhr=>absurd hr (by show ¬ B0<=t;omega) }
      · exact { len := by show (ar true a x.1).length = _; rw [cJ, hm.len]
                one:=hm.one
                leaf:=λV W st _ I _ _ j l u y H=>m1 V W st (λk J=>.inr ⟨rfl,by rw[I];exact J⟩) j l u (hn j) y H
                own:=λj l y H k J=>BF _ (m2 j l (hn j) y H k J)
                sep:=λj j' l l' y H h5 h6=>m3 j j' l l' (hn j) (hn j') y H h5 h6
                box:=λ_=>⟨rfl,BG ..,λj l y H J=>a1.1 (m2 j l (hn j) y H g J),⟨E,hg⟩,BV _⟩ }
    · simp only[PK.bx,By]at hz
      subst hz;exact⟨rfl,_,BF _ (BV _),rfl,rfl⟩
  |hol a c off =>
    obtain⟨cs,u,b0,b1,E,e,xs,h1,h2,y,H,h5,h6⟩:=h;have a2:=br.1 a1;have b6:b0.Nodup:=br.2 λk=>by have:=a2 k;have:=h6 k;omega
    have b4:b1.Nodup:=br.2 λk=>by have:=a2 k;have:=h6 k;omega
    have a4:∀ k,k∈b0->k∉b1:=λk J Y=>by
      have:=a2 k;have:=h6 k;have:=BW.2 J;have:=BW.2 Y;omega
    have a9:∀ k∈b0,k∈b:=λk J=>BW.1 (by have:=h6 k;have:=BW.2 J;omega)
    have b3:∀ k∈b1,k∈b:=λk J=>BW.1 (by have:=h6 k;have:=BW.2 J;omega)
    obtain⟨a5,m1,m2,m3⟩:=iY (P:=P) (p:=true) h2 b6;have Z:∀ j,j≠c->(some c:Option Nat)≠some (0+j):=λj M=>by simp;omega
    have b5:=mv (p:=true) H;rw[Nat.sub_zero]at b5;have ba:(ar true a x.1.1).getD c .dead=.own (true&&e.shy) none E e xs:=by rw[BP,b5];rfl
    refine⟨[⟨t,⟨0,bg a.isAgg,aT (ar true a x.1.1) c (.own (true&&e.shy) (some (x.1.2,off)) E e xs)⟩,cs,λj=>if j=c then b1 else a5 j,b,0⟩],
      ⟨by simp,?_,by simp,by simp,⟨_,BV _,rfl,j8 h1⟩,by simp[PK.bx]⟩,?_⟩
    · intro en he
      simp only[By]at he;subst he;have O:∀ (j:Nat) (l:Leaf),(aT (ar true a x.1.1) c (.own (true&&e.shy) (some (x.1.2,off)) E e xs))[j]?=some l->(j=c/\l=.own (true&&e.shy) (some (x.1.2,off)) E e xs)\/(j≠c/\(ar true a x.1.1)[j]?=some l):=by
        intro j l M;rcases aR _ _ _ _ _ M with ⟨q1,q2,_⟩|⟨q1,q2⟩
        · exact .inl ⟨q1,q2⟩
        · exact .inr ⟨q1,q2⟩
      exact { len := by show (aT (ar true a x.1.1) c _).length = _; simp only [aT, List.length_set]; rw [cJ, h2.len]
              one:=h2.one
              leaf:=λV W st _ I _ _ j l u' h7 h8=>by
                have h8:cs[j]?=some u':=h8;rcases O j l h7 with ⟨rfl,rfl⟩|⟨M,h7⟩
                · rw[y]at h8
                  simp only[BA]at h8;subst h8;simp only[if_true];exact⟨b4,OwB.shy (p:=true) (h5.carry (λk J=>.inr ⟨rfl,by rw[I];exact J⟩) (λ_ _=>rfl) (λ_ _=>rfl))⟩
                · simp only[if_neg M]
                  exact m1 V W st (λk J=>.inr ⟨rfl,by rw[I];exact J⟩) j l u' (Z j M) h7 h8
              own:=λj l h7 h8 k J=>by
                rcases O j l h7 with ⟨rfl,rfl⟩|⟨M,h7⟩
                · simp only[if_true]at J;exact b3 k J
                · simp only[if_neg M]at J;exact a9 k (m2 j l (Z j M) h7 h8 k J)
              sep:=λj j' l l' h7 h8 h9 ad k J Y=>by
                rcases O j l h7 with ⟨rfl,rfl⟩|⟨M,h7⟩ <;> rcases O j' l' h9 with ⟨rfl,rfl⟩|⟨a3,h9⟩
                · rfl
                · simp only[if_true]at J;simp only[if_neg a3]at Y
                  exact absurd J (a4 k (m2 j' l' (Z j' a3) h9 ad k Y))
                · simp only[if_neg M]at J;simp only[if_true]at Y
                  exact absurd Y (a4 k (m2 j l (Z j M) h7 h8 k J))
                · simp only[if_neg M]at J;simp only[if_neg a3]at Y
                  exact m3 j j' l l' (Z j M) (Z j' a3) h7 h8 h9 ad k J Y
              box:=λhr=>absurd hr (by show ¬ B0<=t;omega) }
    · show (t,(⟨0,bg a.isAgg,aT (ar true a x.1.1) c (uC x.1.2 off ((ar true a x.1.1).getD c .dead))⟩:bT))::dj (t+1) ps x.2=_
      rw[ba];rfl
theorem tP:∀ {ps:List PK} {x:ac ps} {u:List Value} {r:List (List Nat)},c8 P w ro pr ps x u r->u.length=ps.length
 |[],_,_,_,h=>by rw[h.1];rfl
 |_::_,_,_,_,⟨_,_,_,_,e,_,_,h⟩=>by rw[e,B7,B7,tP h]
theorem vg:∀ (ps:List PK) (x:ac ps) (Z:List Value) (H:List (List Nat)) (t:Nat),c8 P w ro pr ps x Z H->H.flatten.Nodup->t+ps.length<=B0 ->
  ∃ M:List Ent,dj t ps x=M.map (λe=>(e.r,e.c))/\M.flatMap (·.bl)=H.flatten/\(∀ e∈M,qg P w ro pr (d8 t ps Z) e) /\
   (∀ e∈M,(t<=e.r/\e.r<t+ps.length)\/(B0+t<=e.r/\e.r<B0+t+ps.length))/\(M.map (·.r)).Nodup /\
   (∀ (i:Nat) (v:Value),Z[i]?=some v->∃ e∈M,e.r=t+i/\ee e.c.sh v e.cs)/\(∀ z∈d8 t ps Z,∃ e∈M,e.r=z.1/\e.g=z.2/\B0<=z.1)
 |[],x,Z,H,t,⟨e1,e2⟩,_,_=>by
  subst e1;subst e2;exact⟨[],rfl,rfl,by simp,by simp,by simp,λi v h=>by simp at h,by simp[d8]⟩
 |pk::ps,x,Z,H,t,⟨v,Y,b,a0,e1,e2,h1,h2⟩,X,hB=>by
  subst e1;subst e2;rw[BQ,B8]at X;simp only[B7]at hB;obtain⟨a4,J,p2⟩:=Bj t (by omega) (ps:=ps) (x:=x) X.1 h1;obtain⟨a5,q1,q2,q3,q4,q5,q6,q7⟩:=vg ps x.2 Y a0 (t+1) h2 X.2.1 (by omega);have a1:d8 t (pk::ps) (v::Y)=pk.bx t v++d8 (t+1) ps Y:=by cases pk <;> rfl
  refine⟨a4++a5,by rw[p2,q1,CJ],by rw[List.flatMap_append,J.bl,q2,BQ],λe y=>?_,λe y=>?_,?_,λi u hi=>?_,λz I=>?_⟩
  ·rw[a1];rcases BB.1 y with y|y
   ·exact (J.ok e y).mono (λz I=>BD _ I)
   ·exact (q3 e y).mono (λz I=>BE _ I)
  ·simp only[B7];rcases BB.1 y with y|y
   ·rcases J.at_ e y with h|h <;> omega
   ·rcases q4 e y with h|h <;> omega
  ·rw[CJ,B8];refine⟨J.nod,q5,λa ha b' a2 e0=>?_⟩;subst e0;obtain⟨e,y,rfl⟩:=BL.1 ha;obtain⟨e',a3,e1⟩:=BL.1 a2;rcases J.at_ e y with h|h <;> rcases q4 e' a3 with h'|h' <;> omega
  ·cases i with
   |zero =>
    simp at hi;subst hi;obtain⟨e,y,h3,O⟩:=J.slot;exact⟨e,BD _ y,by omega,O⟩
   |succ i =>
    obtain⟨e,y,h3,O⟩:=q6 i u (by simpa using hi);exact⟨e,BE _ y,by omega,O⟩
  ·rw[a1]at I;rcases BB.1 I with I|I
   ·obtain⟨h3,e,y,O,h5⟩:=J.bxs z I;exact⟨e,BD _ y,by rw[O,h3],h5,by rw[h3];exact Nat.le_add_right _ _⟩
   ·obtain⟨e,y,O,h5,h6⟩:=q7 z I;exact⟨e,BE _ y,O,h5,h6⟩
def gb (w:World)(ro:Nat->Prop)(ps:List PK)(u:List Value)(r:List (List Nat))(nt:Nat):Env:=⟨w,ro,r.flatten,nt,d8 0 ps u,d9 0 ps u⟩
theorem nV:∀ {J:List Ent},(J.flatMap (·.bl)).Nodup->∀ e∈J,∀ H∈J,∀ k,k∈e.bl->k∈H.bl->e=H
 |[],_,e,M,_,_,_,_,_=>by simp at M
 |x::J,r,e,M,H,O,k,I,u=>by
  rw[List.flatMap_cons,B8]at r;rcases BO.1 M with z|z <;> rcases BO.1 O with y|y
  ·rw[z,y]
  ·rw[z]at I;exact absurd rfl (r.2.2 k I k (BT.2 ⟨H,y,u⟩))
  ·rw[y]at u;exact absurd rfl (r.2.2 k u k (BT.2 ⟨e,z,I⟩))
  ·exact nV r.2.1 e z H y k I u
theorem xS:∀ {I:List Ent},(I.map (·.r)).Nodup->∀ e∈I,∀ H∈I,e.r=H.r->e=H
 |[],_,e,J,_,_,_=>by simp at J
 |x::I,u,e,J,H,O,M=>by
  rw[BY,Bz]at u;rcases BO.1 J with z|z <;> rcases BO.1 O with y|y
  ·rw[z,y]
  ·exact absurd (BL.2 ⟨H,y,by rw[<- M,z]⟩) u.1
  ·exact absurd (BL.2 ⟨e,z,by rw[M,y]⟩) u.1
  ·exact xS u.2 e z H y M
theorem rH:∀ (u:List Ent) (q:Nat),(aw (u.map λe=>(e.r,e.c)) q=bT.none/\u.find? (λe=>e.r==q)=none)\/∃ e∈u,e.r=q/\u.find? (λe=>e.r==q)=some e/\aw (u.map λe=>(e.r,e.c)) q=e.c
 |[],q=>.inl ⟨rfl,rfl⟩
 |e::u,q=>by
  by_cases h:e.r=q
  ·refine .inr ⟨e,BG ..,h,by simp[h],?_⟩;simp[aw,ae,h]
  ·have y:BJ q e.r=false:=by
    cases y:BJ q e.r with
    |false=>rfl
    |true=>exact absurd (BH y).symm h
   have I:aw ((e::u).map λe=>(e.r,e.c)) q=aw (u.map λe=>(e.r,e.c)) q:=by simp[aw,ae,y]
   have H:(e::u).find? (λe=>e.r==q)=u.find? (λe=>e.r==q):=by simp[h]
   rw[I,H];rcases rH u q with z|⟨O,z,M,X,J⟩
   ·exact .inl z
   ·exact .inr ⟨O,BF _ z,M,X,J⟩
theorem vh:∀ {ps:List PK} {r:List Value} {t:Nat} {z:Nat×Value},z∈d9 t ps r->∃ i,z.1=t+i/\r[i]?=some z.2
 |[],_,_,_,h=>by simp[d9]at h
 |u::ps,[],_,_,h=>by cases u <;> simp[d9]at h
 |u::ps,v::r,t,z,h=>by
  have:z=(t,v)\/z∈d9 (t+1) ps r:=by cases u <;> simp[d9]at h <;> first|exact h|exact .inr h
  rcases this with rfl|h
  ·exact⟨0,rfl,rfl⟩
  ·obtain⟨i,H,y⟩:=vh h;exact⟨i+1,by omega,by simpa using y⟩
theorem vi {ps:List PK}{x:ac ps}{O:List Value}{J:List (List Nat)}{nt:Nat}(h:c8 P w ro (λk=>k<w.heap.size/\k∉J.flatten) ps x O J)(a2:J.flatten.Nodup)
  (c3:ps.length<=nt) (hB:nt<=GH):Rel P (gb w ro ps O J nt) (aw (dj 0 ps x)) { tmps:=O.toArray++B3 (nt-O.length) undef,defers:=[] } w:=by
 have c1:=tP h;have c2:GH<=B0:=by decide
 obtain⟨Y,q1,q2,q3,q4,q5,q6,q7⟩:=vg ps x O J 0 h a2 (by omega);rw[q1];have b9:=rH Y;have a4:∀ e∈Y,∀ H∈Y,e.r=H.r->e=H:=by
  intro e he H b5 hr;exact xS q5 e he H b5 hr
 rw[<- q2]at a2;have a1:∀ e∈Y,∀ k∈e.bl,k∈J.flatten:=λe he k hk=>by rw[<- q2];exact BT.2 ⟨e,he,hk⟩
 have hE:∀ q,(aw (Y.map λe=>(e.r,e.c)) q=bT.none/\Y.find? (λe=>e.r==q)=none)\/∃ e∈Y,e.r=q/\Y.find? (λe=>e.r==q)=some e/\aw (Y.map λe=>(e.r,e.c)) q=e.c:=b9;have a0:∀ q,live (aw (Y.map λe=>(e.r,e.c))) q->∃ e∈Y,e.r=q/\B0<=e.r/\Y.find? (λe=>e.r==q)=some e:=by
  rintro q ⟨h1,h2⟩;rcases hE q with ⟨I,_⟩|⟨e,I,y,h5,M⟩
  ·rw[I]at h2;cases h2
  ·exact⟨e,I,y,by rw[y];exact h1,h5⟩
 let β:Nat->Nat:=λq=>match Y.find? (λe=>e.r==q) with|some e=>e.g|none=>0
 let cs:Nat->List Value:=λq=>match Y.find? (λe=>e.r==q) with|some e=>e.cs|none=>[]
 let bs:Nat->Nat->List Nat:=λq j=>match Y.find? (λe=>e.r==q) with|some e=>e.bs j|none=>[]
 have a9:∀ z∈d8 0 ps O,B0<=z.1/\(aw (Y.map λe=>(e.r,e.c)) z.1).sh=.agg/\β z.1=z.2:=by
  intro z hz;obtain⟨e,he,h1,h2,I⟩:=q7 z hz;refine⟨I,?_⟩;rcases hE z.1 with ⟨_,y⟩|⟨H,y,h5,M,Z⟩
  ·exfalso;rw[Cm]at y;exact y e he (by simp[h1])
  ·have:H=e:=a4 H y e he (by rw[h5,h1]);subst this;rw[Z];exact⟨((q3 H he).box (by rw[h1];exact I)).1,by simp only[β,M];exact h2⟩
 refine⟨{ β:=β,cs:=cs,bs:=bs,nw:=λ_=>False },?_⟩;have b4:(gb w ro ps O J nt).prot=λk=>k<w.heap.size/\k∉J.flatten:=rfl
 exact {
  nt:=by show (O.toArray++B3 (nt-O.length) undef).size=nt;simp;omega
  df:=rfl
  slots:=λt ht=>by
   show ee _ ((O.toArray++B3 (nt-O.length) undef).getD t undef) (cs t);by_cases hq:t<ps.length
   ·have hv:=BR (show t<O.length by omega);have:(O.toArray++B3 (nt-O.length) undef).getD t undef=O[t]:=by
     rw[BN,CO (by simp;omega)];simp[hv]
    rw[this];obtain⟨e,he,h1,h2⟩:=q6 t _ hv;rw[CB]at h1;rcases hE t with ⟨_,y⟩|⟨H,y,h5,M,Z⟩
    ·exfalso;rw[Cm]at y;exact y e he (by simp[h1])
    ·have:H=e:=a4 H y e he (by rw[h5,h1]);subst this;rw[Z];simp only[cs,M];exact h2
   ·rcases hE t with ⟨I,y⟩|⟨H,y,h5,M,Z⟩
    ·rw[I];simp only[cs,y];rfl
    ·rcases q4 H y with h8|h8 <;> omega
  boxes:=λb hb=>by
   rcases hE b with ⟨I,y⟩|⟨H,y,h5,M,Z⟩
   ·rw[I];exact .inl ⟨rfl,rfl⟩
   ·obtain⟨g1,g2,g3,⟨E,g4⟩,g5⟩:=(q3 H y).box (by rw[h5];exact hb);rw[Z];exact .inr ⟨g1,E,by simp only[β,cs,M];exact g4⟩
  len:=λq=>by
   rcases hE q with ⟨I,y⟩|⟨H,y,h5,M,Z⟩
   ·rw[I];simp only[cs,y];rfl
   ·rw[Z];simp only[cs,M];exact (q3 H y).len
  one:=λq u hu=>by
   have hu:u∈cs q:=hu;rcases hE q with ⟨I,y⟩|⟨H,y,h5,M,Z⟩
   ·simp only[cs,y]at hu;simp at hu
   ·simp only[cs,M]at hu;exact (q3 H y).one u hu
  leaf:=λq j l v X hv=>by
   have hv:(cs q)[j]?=some v:=hv;rcases hE q with ⟨I,y⟩|⟨H,y,h5,M,Z⟩
   ·rw[I]at X;simp[bT.none]at X
   ·rw[Z]at X;simp only[cs,M]at hv;show aK P _ _ _ w (bs q j) l v;simp only[bs,M];exact (q3 H y).leaf (gb w ro ps O J nt) _ _ rfl rfl rfl a9 j l v X hv
  ownb:=λq j l X ho k hk=>by
   have hk:k∈bs q j:=hk;rcases hE q with ⟨I,y⟩|⟨H,y,h5,M,Z⟩
   ·rw[I]at X;simp[bT.none]at X
   ·rw[Z]at X;simp only[bs,M]at hk;have ad:=(q3 H y).own j l X ho k hk;refine⟨id,λhp=>hp.2 (a1 H y k ad),λb hb e0=>?_⟩;obtain⟨e2,g1,g2,g3,g4⟩:=a0 b hb;have a6:=(q3 e2 g1).box g3;have e0:β b=k:=e0;simp only[β,g4]at e0;have:=nV a2 H y e2 g1 k ad (by rw[<- e0];exact a6.2.1);subst this;exact a6.2.2.1 j l X ho (by rw[e0];exact hk)
  sep:=λq j l q' j' l' X ho a5 b1 k hk a3=>by
   have hk:k∈bs q j:=hk;have a3:k∈bs q' j':=a3;rcases hE q with ⟨I,y⟩|⟨e1,y,h5,M,Z⟩
   ·rw[I]at X;simp[bT.none]at X
   ·rcases hE q' with ⟨b3,ab⟩|⟨e2,ab,b6,ba,bn⟩
    ·rw[b3]at a5;simp[bT.none]at a5
    ·rw[Z]at X;rw[bn]at a5;simp only[bs,M]at hk;simp only[bs,ba]at a3;have:=nV a2 e1 y e2 ab k ((q3 e1 y).own j l X ho k hk) ((q3 e2 ab).own j' l' a5 b1 k a3);subst this;exact⟨by rw[<- h5,<- b6],(q3 e1 y).sep j j' l l' X ho a5 b1 k hk a3⟩
  box:=λb hb=>by
   obtain⟨e2,g1,g2,g3,g4⟩:=a0 b hb;have a6:=(q3 e2 g1).box g3;refine⟨id,λhp=>hp.2 ?_⟩;show β b∈_;simp only[β,g4];exact a1 e2 g1 _ a6.2.1
  inj:=λb b' hb bx e0=>by
   obtain⟨e1,g1,g2,g3,g4⟩:=a0 b hb;obtain⟨e2,b0,b2,c0,bb⟩:=a0 b' bx;have e0:β b=β b':=e0;simp only[β,g4,bb]at e0;have:=nV a2 e1 g1 e2 b0 e1.g ((q3 e1 g1).box g3).2.1 (by rw[e0];exact ((q3 e2 b0).box c0).2.1);subst this;rw[<- g2,<- b2]
  nwlt:=λk hk=>hk.elim
  os:=rfl,tape:=rfl,output:=rfl,size:=Cb _,keep:=λ_ _=>rfl
  fixb:=λz hz=>by
   obtain⟨h1,h2,I⟩:=a9 z hz;exact⟨⟨h1,h2⟩,I⟩
  fixt:=λz hz=>by
   obtain⟨i,h1,h2⟩:=vh hz;rw[CB]at h1;show (O.toArray++B3 (nt-O.length) undef).getD z.1 undef=z.2;rw[h1,BN,CO (by simpa using (BK.1 h2).1)];simp[h2] }
end
section
variable {P:Program} {V:Env} {W:Wit} {Γ:List Ctr} {T:TypeId->TI} {R:Type} {st:St} {a:Act} {w:World} {ro:Nat->Prop}
theorem Bk (hT:TOk P T)(h:aq P V W st a w)(x:ResultVar)(I:pt st T x≠.off) :
  ∃ v X,(match x with|.tmp t=>(pure (a.tmps.getD t undef):Sem Value)|.cell b t=>(do loadVar t (<- asAddr (a.tmps.getD b undef)):Sem Value)).run P w=.ok v w /\
   ee (pt st T x) v X/\aD P V W st w (vm st T x) X:=by
 cases x with
 |tmp t =>
  obtain⟨X,h1,O⟩:=cU h (.tmp t);exact⟨_,X,rfl,h1,O⟩
 |cell t u =>
  simp only[pt]at I ⊢;split at I
  ·rename_i b off Z;cases J:decide ((st b).sh=.agg)&&Cd (off+(T u).cells) (st b).ls.length&&!BJ (T u).cells 0 with
   |false=>rw[J]at I;exact absurd rfl I
   |true =>
    simp only[Z,J,cond_true,vm];simp only[BC,decide_eq_true_eq,B5]at J;obtain⟨⟨h1,O⟩,h3⟩:=J;have O:off+(T u).cells<=(st b).ls.length:=Bu O;have Y:T u≠.none:=by
     intro e;rw[e]at h3;simp[TI.cells]at h3
    obtain⟨hp,_,_,_,_⟩:=bq h (.tmp t) (by rw[Z];simp);rw[Z]at hp;obtain⟨hB,a0,H⟩:=hp;have H:a.tmps.getD t undef=.pointer (some ⟨W.β b,off,none⟩):=H;rcases h.boxes b hB with ⟨M,_⟩|⟨_,E,M⟩
    ·rw[a0]at M;cases M
    ·have r:cV w (W.β b) 0 (W.cs b):=λi v H=>by
      rw[CB,cell_of_row w (W.β b) i _ E (0,0) M];simpa using H
     have a2:=h.len b;have z:=r.sub off (T u).cells;rw[CB]at z;obtain⟨v,y,a1⟩:=n9 (hT u) Y z (by simp;omega);refine⟨v,_,?_,a1,((iA h b).drop off).take _⟩;simp only[H];simpa[asAddr]using y
  ·exact absurd rfl I
def nA (a:Act):ResultVar->Sem Value
 |.tmp t=>pure (a.tmps.getD t undef)
 |.cell b t=>do loadVar t (<- asAddr (a.tmps.getD b undef))
def nB (P:Program)(a:Act)(w:World):List ResultVar->List Value->Prop
 |[],u=>u=[]
 |x::y,u=>∃ v r,u=v::r/\(nA a x).run P w=.ok v w/\nB P a w y r
theorem rI:∀ (l:List ResultVar) (u:List Value),nB P a w l u->(l.mapM (nA a)).run P w=.ok u w
 |[],_,h=>by rw[show _=_ from h];rfl
 |x::l,_,⟨v,r,e,z,y⟩=>by subst e;simp[Cc,z,rI l r y]
theorem Aq (b:Bool):bg b≠.off:=by cases b <;> simp[bg]
def RK.isBox:RK->Bool
 |.box _=>true
 |_=>false
theorem tQ (hV:ay V)(hT:TOk P T)(h:aq P V W st a w)(ad:V.ro0=ro){fx:List Nat}:∀ (rs:List RK) (I:List ResultVar) (y:cL (aj rs)),kd st T fx rs I=some y ->
  ∀ {G:Nat->Prop},(∀ k,bj V W y.p y.frz k->G k) ->
  ∃ (us:List Value) (H:List (List Nat)) (bx:List Nat),nB P a w I us/\gz w G ro rs y.val us H/\(∀ k,H.flatten.count k=(aX W y.kill).count k+(bx.map W.β).count k) /\
   (∀ b∈bx,live st b/\fx.any (BJ b)=false)/\bx.length=rs.countP RK.isBox/\(∀ z∈y.frz,aC st z)/\∀ z∈y.kill,aC st z
 |[],[],y,J,G,hG=>by
  simp only[kd,BA]at J;subst J;exact⟨[],[],[],rfl,⟨rfl,rfl⟩,λk=>by simp[aX],by simp,rfl,by simp,by simp⟩
 |[],_::_,_,J,_,_=>by simp[kd]at J
 |_::_,[],_,J,_,_=>by simp[kd]at J
 |r::rs,x::I,y,J,G,hG=>by
  simp only[kd]at J;cases M:decide (pt st T x=r.sh) with
  |false=>simp[M]at J
  |true =>
   simp only[M,cond_true]at J;have M:=of_decide_eq_true M;split at J
   ·rename_i X y2 u b4;simp only[BA]at J;subst J;obtain⟨v,a3,a6,O,Y⟩:=Bk hT h x (by rw[M];cases r <;> simp only[RK.sh] <;> first|exact Aq _|simp);rw[M]at O;have a1:∀ k,bj V W X.p X.frz k->G k:=λk Z=>hG k (dQ.1 k Z)
    have b3:∀ k,bj V W y2.p y2.frz k->G k:=λk Z=>hG k (dQ.2 k Z)
    obtain⟨us,H,bx,i1,i2,i3,i4,i5,i6,i7⟩:=tQ hV hT h ad rs I y2 b4 b3;have a2:(nA a x).run P w=.ok v w:=by cases x <;> exact a6
    have a4:∀ (b:List Nat) (a0:List Nat),pY w G ro r X.val v b->(∀ k,b.count k=(aX W X.kill).count k+(a0.map W.β).count k)->(∀ b∈a0,live st b/\fx.any (BJ b)=false)->a0.length=(if r.isBox then 1 else 0)->(∀ z∈X.frz,aC st z)->(∀ z∈X.kill,aC st z) ->
      ∃ (us:List Value) (H:List (List Nat)) (bx:List Nat),nB P a w (x::I) us/\gz w G ro (r::rs) (X.val,y2.val) us H/\(∀ k,H.flatten.count k=(aX W (X.kill++y2.kill)).count k+(bx.map W.β).count k) /\
       (∀ b∈bx,live st b/\fx.any (BJ b)=false)/\bx.length=(r::rs).countP RK.isBox/\(∀ z∈X.frz++y2.frz,aC st z)/\∀ z∈X.kill++y2.kill,aC st z:=by
     intro b a0 f1 f2 f3 f4 f5 f6;refine⟨v::us,b::H,a0++bx,⟨v,us,rfl,a2,i1⟩,⟨v,us,b,H,rfl,rfl,f1,i2⟩,λk=>?_,λz hz=>(BB.1 hz).elim (f3 z) (i4 z),?_,λz hz=>(BB.1 hz).elim (f5 z) (i6 z),λz hz=>(BB.1 hz).elim (f6 z) (i7 z)⟩
     ·rw[BQ,BU,f2 k,i3 k,dI,BU,CJ,BU];omega
     ·rw[List.length_append,f4,i5,Cs];cases r.isBox <;> simp <;> omega
    cases r with
    |v b =>
     simp only[rX]at u;obtain⟨g1,g2,g3⟩:=dO (pos:=0) h Y u;exact a4 (aX W X.kill) [] ⟨a3,gA O,g1.mono a1⟩ (λk=>by simp) (by simp) rfl g2 g3
    |bv b =>
     simp only[rX,BI]at u;obtain⟨⟨p,z⟩,hz,rfl⟩:=u;have g1:=ez h Y hz;refine a4 [] [] ⟨rfl,a3,gA O,g1.mono λk Z=>?_⟩ (λk=>by simp[aX]) (by simp) rfl (λz hz=>ek Y hz) (by simp);rcases Z with (Z|⟨_,Z⟩)|Z
     ·exact .inl (a1 k (.inl (.inl Z)))
     ·exact .inr (by rw[<- ad];exact Z)
     ·exact .inl (a1 k (.inr Z))
    |box b =>
     simp only[rX]at u;split at u
     ·rename_i b0 b2;cases a5:!(fx.any (BJ b0)) with
      |false=>rw[a5]at u;cases u
      |true =>
       rw[a5]at u;simp only[cond_true]at u;have O:a3=[v]:=O;subst O;rw[b2]at Y;obtain⟨hB,a9,b1⟩:=Y.1.1;obtain⟨g1,g2,g3⟩:=dO (pos:=0) h (iA h b0) u;rcases h.boxes b0 hB with ⟨h8,_⟩|⟨_,E,h8⟩
       ·rw[a9]at h8;cases h8
       ·exact a4 (W.β b0::aX W X.kill) [b0] ⟨W.β b0,W.cs b0,E,_,b1,h8,g1.mono a1,rfl⟩ (λk=>by
         rw[CK,BY,C0,CK,List.count_nil];omega) (λb' ab=>by
         simp at ab;subst ab;exact⟨⟨hB,a9⟩,by simpa using a5⟩) rfl g2 g3
     ·cases u
   ·cases J
theorem mw (hV:ay V)(h:aq P V W st a w){w0:World}{pr:Nat->Prop}(a6:V.nt<=GH):∀ (ps:List PK) (x:ac ps) (vs:List Value) (a4:List (List Nat)) (t:Nat) (o:cL (ai ps)),c8 P w0 ro pr ps x vs a4->ia st t ps=some o->t+ps.length<=V.nt ->
  (∀ z∈d9 t ps vs,a.tmps.getD z.1 undef=z.2)->(∀ z∈d8 t ps vs,live st z.1/\W.β z.1=z.2)->∀ {G:Nat->Prop},(∀ k,bj V W o.p o.frz k->G k) ->
  ∃ r,bL w G ps o.val vs r/\(∀ k,r.flatten.count k=(aX W o.kill).count k+((bF t ps).map W.β).count k)/\(∀ z∈o.frz,aC st z)/\(∀ z∈o.kill,aC st z)/\∀ b∈bF t ps,live st b
 |[],x,vs,a4,t,o,⟨e1,e2⟩,y,_,_,_,G,hG=>by
  simp only[ia,BA]at y;subst y;subst e1;exact⟨[],trivial,λk=>by simp[aX,bF],by simp,by simp,by simp[bF]⟩
 |pk::ps,x,vs,a4,t,o,⟨v,X,b,a0,e1,e2,h1,h2⟩,y,ht,a1,a2,G,hG=>by
  subst e1;subst e2;simp only[B7]at ht;have u:∀ (o':cL (ai ps)),ia st (t+1) ps=some o'->d9 t (pk::ps) (v::X)=d9 (t+1) ps X->d8 t (pk::ps) (v::X)=d8 (t+1) ps X->(∀ k,bj V W o'.p o'.frz k->G k) ->
    ∃ r,bL w G ps o'.val X r/\(∀ k,r.flatten.count k=(aX W o'.kill).count k+((bF (t+1) ps).map W.β).count k)/\(∀ z∈o'.frz,aC st z)/\(∀ z∈o'.kill,aC st z)/\∀ b∈bF (t+1) ps,live st b:=by
   intro o' ab e1 e2 ad;exact mw hV h a6 ps x.2 X a0 (t+1) o' h2 ab (by omega) (λz H=>a1 z (by rw[e1];exact H)) (λz H=>a2 z (by rw[e2];exact H)) ad
  cases pk with
  |io b =>
   simp only[ia]at y;split at y
   ·rename_i y1 y2 Z a5;simp only[BA]at y;subst y;obtain⟨r,J,Y,I,O,M⟩:=mw hV h a6 ps x.2 X a0 (t+1) y2 h2 a5 (by omega) (λz H=>a1 z (BF _ H)) (λz H=>a2 z H) (λk hk=>hG k (dQ.2 k hk));cases hb:decide ((av st (.tmp t)).1=bg b.isAgg) with
    |false=>rw[hb]at Z;cases Z
    |true =>
     rw[hb]at Z;simp only[cond_true]at Z;obtain⟨cs,h3,h4⟩:=cU h (.tmp t);rw[of_decide_eq_true hb]at h3;have hv:a.eval (.tmp t)=v:=a1 (t,v) (BG ..);rw[hv]at h3;obtain⟨g1,g2,g3⟩:=dO (pos:=0) h h4 Z;refine⟨aX W y1.kill::r,⟨?_,J⟩,λk=>?_,λz H=>(BB.1 H).elim (g2 z) (I z),λz H=>(BB.1 H).elim (g3 z) (O z),M⟩
     ·unfold jn;rw[if_neg (by simp)];exact⟨cs,gA h3,g1.mono (λk hk=>hG k (dQ.1 k hk))⟩
     ·rw[BQ,BU,Y k,dI,BU];show _=_+((bF (t+1) ps).map W.β).count k;omega
   ·cases y
  |iop b =>
   simp only[ia]at y;split at y
   ·rename_i y1 y2 Z a5;simp only[BA]at y;subst y;obtain⟨r,J,Y,I,O,M⟩:=mw hV h a6 ps x.2 X a0 (t+1) y2 h2 a5 (by omega) (λz H=>a1 z (BF _ H)) (λz H=>a2 z (BF _ H)) (λk hk=>hG k (dQ.2 k hk));obtain⟨g,c,E,b0,hv,_,_,_⟩:=h1;subst hv;obtain⟨a9,hβ⟩:=a2 (B0+t,tO (.pointer (some ⟨g,0,none⟩))) (BG ..);have hβ:W.β (B0+t)=g:=hβ;obtain⟨g1,g2,g3⟩:=dO (pos:=0) h (iA h (B0+t)) Z;rcases h.boxes (B0+t) a9.1 with ⟨h8,_⟩|⟨_,E',h8⟩
    ·have:=a9.2;rw[h8]at this;cases this
    ·refine⟨(g::aX W y1.kill)::r,⟨?_,J⟩,λk=>?_,λz H=>(BB.1 H).elim (g2 z) (I z),λz H=>(BB.1 H).elim (g3 z) (O z),λb' a3=>?_⟩
     ·unfold jn;rw[if_pos rfl];exact⟨g,W.cs (B0+t),E',_,rfl,by rw[<- hβ];exact h8,g1.mono (λk hk=>hG k (dQ.1 k hk)),rfl⟩
     ·rw[BQ,BU,Y k,dI,BU,CK];show _=_+(W.β (B0+t)::(bF (t+1) ps).map W.β).count k;rw[CK,hβ];omega
     ·rcases BO.1 a3 with rfl|a3
      ·exact a9
      ·exact M b' a3
   ·cases y
  |rd b =>
   obtain⟨r,J,Y,I,O,M⟩:=u o y rfl rfl hG;exact⟨[]::r,⟨rfl,J⟩,λk=>by rw[BQ,Bx];exact Y k,I,O,M⟩
  |own b =>
   obtain⟨r,J,Y,I,O,M⟩:=u o y rfl rfl hG;exact⟨[]::r,⟨rfl,J⟩,λk=>by rw[BQ,Bx];exact Y k,I,O,M⟩
  |rref b =>
   obtain⟨r,J,Y,I,O,M⟩:=u o y rfl rfl hG;exact⟨[]::r,⟨rfl,J⟩,λk=>by rw[BQ,Bx];exact Y k,I,O,M⟩
  |rref2 b =>
   obtain⟨r,J,Y,I,O,M⟩:=u o y rfl rfl hG;exact⟨[]::r,⟨rfl,J⟩,λk=>by rw[BQ,Bx];exact Y k,I,O,M⟩
  |fn As B =>
   obtain⟨r,J,Y,I,O,M⟩:=u o y rfl rfl hG;exact⟨[]::r,⟨rfl,J⟩,λk=>by rw[BQ,Bx];exact Y k,I,O,M⟩
  |clo f cs =>
   obtain⟨r,J,Y,I,O,M⟩:=u o y rfl rfl hG;exact⟨[]::r,⟨rfl,J⟩,λk=>by rw[BQ,Bx];exact Y k,I,O,M⟩
  |hol b c off =>
   obtain⟨r,J,Y,I,O,M⟩:=u o y rfl rfl hG;exact⟨[]::r,⟨rfl,J⟩,λk=>by rw[BQ,Bx];exact Y k,I,O,M⟩
end
section
variable {P:Program} {Γ:List Ctr} {T:TypeId->TI} {w:World} {ro:Nat->Prop}
theorem uz {fn:Func}{a:Act}{w:World}{r:List Value}(h:nB P a w fn.results.toList r):(results fn a.tmps).run P w=.ok (if h:r.toArray.size=1 then r.toArray[0] else .tuple r.toArray) w:=by
 have z:=rI _ _ h;have e:results fn a.tmps=(fn.results.mapM (nA a) >>= λu=>pure (if h:u.size=1 then u[0] else .tuple u)):=by
  unfold results;congr 1
 have y:(fn.results.mapM (nA a)).run P w=.ok r.toArray w:=by
  rw[Array.mapM_eq_mapM_toList];simp[z]
 rw[e];simp only[CF,y,B9,Co]
theorem Bl (us:List Value):sd us (if h:us.toArray.size=1 then us.toArray[0] else .tuple us.toArray):=by
 match us with
 |[]=>rfl
 |[u]=>rfl
 |u::r::us =>
  rw[dif_neg (by simp)];rfl
theorem rJ:∀ (ps:List PK) (t:Nat),(bF t ps).Nodup/\∀ b∈bF t ps,B0+t<=b
 |[],t=>⟨CP,by simp[bF]⟩
 |H::ps,t=>by
  obtain⟨y,u⟩:=rJ ps (t+1);have z:∀ b∈bF (t+1) ps,B0+t<=b:=λb r=>by have:=u b r;omega
  cases H with
  |iop a =>
   refine⟨Bz.2 ⟨λI=>?_,y⟩,λb r=>?_⟩
   ·have:=u _ I;omega
   ·rcases BO.1 r with rfl|r
    ·exact Cb _
    ·exact z b r
  |_=>exact⟨y,z⟩
theorem Bm {u:List RK}(h:qm u=true):u.countP RK.isBox<=1:=by
 unfold qm at h;split at h
 ·simp[RK.isBox]
 ·rw[Cg.2]
  ·exact Cu _
  ·intro r y;rw[BX]at h;have:=h r y;cases r <;> simp[RK.isV,RK.isBox]at this ⊢
theorem rK {β:Nat->Nat}:∀ {bs:List Nat},bs.Nodup->(∀ b∈bs,∀ u∈bs,β b=β u->b=u)->(bs.map β).Nodup
 |[],_,_=>CP
 |b::bs,z,H=>by
  rw[Bz]at z;rw[BY,Bz];refine⟨λI=>?_,rK z.2 (λx M y J=>H x (BF _ M) y (BF _ J))⟩;obtain⟨u,r,e⟩:=BL.1 I;have:=H u (BF _ r) b (BG ..) e;exact z.1 (by rw[<- this];exact r)
theorem xT (hT:TOk P T){c:Ctr}(bl:qm c.rs=true){vs:List Value}{J:List (List Nat)}{fn:Func}{nt:Nat}(hV:ay (gb w ro c.ps vs J nt)){x:ac c.ps}{pr:Nat->Prop}(b4:c8 P w ro pr c.ps x vs J)(c4:c.ps.length<=nt){ex:Ex}{s1:St}{y:aj c.rs×ai c.ps}
  (r:de T c.ps c.rs c.fresh fn.results.toList ex s1=some y) {a:Act} {w':World} (u:Rel P (gb w ro c.ps vs J nt) s1 a w') :
  (ex=.normal\/ex=.ret)/\∃ v,(results fn a.tmps).run P w'=.ok v w'/\tt c w ro vs J y (.returned v) w':=by
 obtain⟨W,u⟩:=u;have b5:ex=.normal\/ex=.ret:=by
  cases ex with
  |normal=>exact .inl rfl
  |ret=>exact .inr rfl
  |exit id=>cases r
 refine⟨b5,?_⟩;have r:finR T c.ps c.rs c.fresh fn.results.toList s1=some y:=by
  rcases b5 with rfl|rfl <;> exact r
 unfold finR at r;split at r
 ·rename_i O M bb c0;cases Y:aY (O.kill++M.kill)&&dD (O.frz++M.frz) (O.kill++M.kill)&&(!c.fresh||!(O.p||M.p)) with
  |false=>rw[Y]at r;cases r
  |true =>
   rw[Y]at r;simp only[cond_true,BA]at r;subst r;simp only[BC]at Y;obtain⟨⟨b6,c1⟩,b9⟩:=Y;let N:Nat->Prop:=λk=>W.nw k\/∃ z∈O.frz++M.frz,k∈W.bs z.1 z.2
   have hG:∀ (p:Bool) (b0:List (Nat×Nat)),(p=true->(O.p||M.p)=true)->(∀ z∈b0,z∈O.frz++M.frz)->∀ k,bj (gb w ro c.ps vs J nt) W p b0 k->N k\/(c.fresh=false/\ro k):=by
    intro p b0 hp H k I;rcases I with (I|⟨hq,I⟩)|⟨z,Z,I⟩
    ·exact .inl (.inl I)
    ·refine .inr ⟨?_,I⟩;rw[hp hq]at b9;simpa using b9
    ·exact .inl (.inr ⟨z,H z Z,I⟩)
   obtain⟨us,a9,bx,r1,r2,r3,r4,r5,r6,r7⟩:=tQ hV hT u rfl c.rs fn.results.toList O bb (G:=λk=>N k\/(c.fresh=false/\ro k)) (hG O.p O.frz (by intro h;simp[h]) (λz H=>BD _ H));obtain⟨ab,o1,o2,o3,o4,o5⟩:=mw hV u hV.nt c.ps x vs J 0 M b4 c0 (by rw[CB];exact c4) (λz H=>u.fixt z H) (λz H=>u.fixb z H) (G:=λk=>N k\/(c.fresh=false/\ro k)) (hG M.p M.frz (by intro h;simp[h]) (λz H=>BE _ H));have a0:∀ z∈O.kill++M.kill,aC s1 z:=λz H=>(BB.1 H).elim (r7 z) (o4 z)
   have a2:∀ z∈O.frz++M.frz,aC s1 z:=λz H=>(BB.1 H).elim (r6 z) (o3 z)
   have a4:∀ k,k<w'.heap.size->¬ (gb w ro c.ps vs J nt).prot k->pZ w w' J.flatten k:=by
    intro k I hp;refine⟨I,?_⟩;by_cases bn:k<w.heap.size
    ·right;apply Bt;intro hn;exact hp ⟨bn,hn⟩
    ·exact .inl (by omega)
   have c3:∀ k,N k->pZ w w' J.flatten k:=by
    rintro k (I|⟨z,H,I⟩)
    ·exact a4 k (u.nwlt k I).1 (u.nwlt k I).2
    ·obtain⟨l,h7,h8⟩:=a2 z H;exact a4 k (u.own_lt h7 h8 k I) (u.ownb z.1 z.2 l h7 h8 k I).2.1
   have X:∀ b∈bx++bF 0 c.ps,live s1 b:=λb R=>(BB.1 R).elim (λR=>(r4 b R).1) (o5 b)
   have ba:(bx++bF 0 c.ps).Nodup:=by
    rw[B8];refine⟨?_,(rJ c.ps 0).1,λb R b' b2 e=>?_⟩
    ·have:=Bm bl;rw[<- r5]at this
     match bx,this with
     |[],_=>exact CP
     |[b],_=>simp
    ·subst e;have:=CR.1 (r4 b R).2 b b2;simp at this
   have a6:=rK (β:=W.β) ba (λb R b' b2 e=>u.inj b b' (X b R) (X b' b2) e);have a5:∀ k,(ab.flatten++a9.flatten).count k=(aX W (O.kill++M.kill)).count k+((bx++bF 0 c.ps).map W.β).count k:=λk=>by
    rw[BU,o2 k,r3 k,dI,BU,CJ,BU];omega
   have c2:=br.1 (gP u b6 a0);have ad:∀ k∈ab.flatten++a9.flatten,(∃ z∈O.kill++M.kill,k∈W.bs z.1 z.2)\/∃ b,live s1 b/\W.β b=k:=λk I=>by
    have h5:=BW.2 I;rw[a5 k]at h5;by_cases h6:k∈aX W (O.kill++M.kill)
    ·exact .inl (gj.1 h6)
    ·have:=CQ.2 h6;obtain⟨b,R,e⟩:=BL.1 (BW.1 (show 0<((bx++bF 0 c.ps).map W.β).count k by omega));exact .inr ⟨b,X b R,e⟩
   refine⟨_,uz r1,_,us,N,ab,a9,rfl,Bl us,u.size,u.os,u.tape,u.output,λk h1 h2=>u.keep k ⟨h1,h2⟩,c3,o1,r2,br.2 λk=>?_,λk I=>?_⟩
   ·rw[a5 k];have h5:=c2 k;have h6:=br.1 a6 k;by_cases h7:k∈(bx++bF 0 c.ps).map W.β
    ·have:(aX W (O.kill++M.kill)).count k=0:=CQ.2 λhm=>by
      obtain⟨b,R,e⟩:=BL.1 h7;obtain⟨z,H,a3⟩:=gj.1 hm;obtain⟨l,hl,ho⟩:=a0 z H;exact (u.ownb z.1 z.2 l hl ho k a3).2.2 b (X b R) e
     omega
    ·have:=CQ.2 h7;omega
   ·rcases ad k I with ⟨z,H,a3⟩|⟨b,R,e⟩
    ·obtain⟨l,hl,ho⟩:=a0 z H;have h9:=u.ownb z.1 z.2 l hl ho k a3;refine⟨a4 k (u.own_lt hl ho k a3) h9.2.1,?_⟩;rintro (hn|⟨z',Z,a1⟩)
     ·exact h9.1 hn
     ·obtain⟨l',b3,b1⟩:=a2 z' Z;obtain⟨e1,e2⟩:=u.sep z.1 z.2 l z'.1 z'.2 l' hl ho b3 b1 k a3 a1;exact nG c1 z' Z (by rw[show z'=z from Prod.ext e1.symm e2.symm];exact H)
    ·subst e;have h9:=u.box b R;refine⟨a4 _ (u.box_lt R) h9.2,?_⟩;rintro (hn|⟨z',Z,a1⟩)
     ·exact h9.1 hn
     ·obtain⟨l',b3,b1⟩:=a2 z' Z;exact (u.ownb z'.1 z'.2 l' b3 b1 _ a1).2.2 b R rfl
 ·cases r
theorem jY:∀ {ps:List PK} {u:List Value} {t:Nat} {z:Nat×Value},z∈d9 t ps u->z.1∈gi t ps
 |[],_,_,_,h=>by simp[d9]at h
 |r::ps,[],_,_,h=>by cases r <;> simp[d9]at h
 |r::ps,v::u,t,z,h=>by
  cases r <;> simp only[d9,gi,BO]at h ⊢ <;> first
   |exact jY h
   |exact h.imp (λe=>by rw[e]) jY
theorem jZ:∀ {ps:List PK} {u:List Value} {t:Nat} {z:Nat×Nat},z∈d8 t ps u->z.1∈bF t ps
 |[],_,_,_,h=>by simp[d8]at h
 |r::ps,[],_,_,h=>by cases r <;> simp[d8]at h
 |r::ps,v::u,t,z,h=>by
  cases r <;> simp only[d8,bF,BO]at h ⊢ <;> first
   |exact jZ h
   |exact h.imp (λe=>by rw[e]) jZ
theorem dn {f:FuncId}{fn:Func}{c:Code}(H:P.funcs[f]?=some fn)(y:(fn.name== "runtime.NumGoroutine")=false) (z:fn.body=some c):fQ P f:=by
 intro u w;have r:fn.name≠ "runtime.NumGoroutine" := by simpa using y
 simp[callFunc,H,r,z]
theorem ph (hT:TOk P T)(hΓ:∀ c∈Γ,bP P c)(X:P.follows .mixedOrders=true){c:Ctr}{fn:Func}(hf:P.funcs[c.f]?=some fn)(hn:(fn.name== "runtime.NumGoroutine")=false)
  {L:List (Nat×List (Nat×List Coe))} {Y:Nat} (O:fn.body.isSome=true) (a0:∀ x,evF Γ T L Y fn c.ps c.rs c.fresh x=c.den x):bP P c:=by
 obtain⟨H,O⟩:=Option.isSome_iff_exists.1 O;refine⟨dn hf hn O,λw ro x vs a3 y u a5 a4 J=>?_⟩;rw[<- a0]at J;unfold evF at J;simp only[O]at J;cases r:dP fn.ntmps (gi 0 c.ps) H&&Cd c.ps.length fn.ntmps&&Cd fn.ntmps GH&&qm c.rs&&dp L (bF 0 c.ps) H with
 |false=>simp[r]at J
 |true =>
  simp only[r,cond_true]at J;simp only[BC]at r;obtain⟨⟨⟨⟨h1,h2⟩,h3⟩,h4⟩,h5⟩:=r;have h2:=Bu h2;have h3:=Bu h3;have hV:ay (gb w ro c.ps vs a3 fn.ntmps):=⟨λk hk=>a5 k hk,h3⟩;have Z:=vi (P:=P) (ro:=ro) u a4 h2 h3;refine calls_of_wp hf O ?_;rw[Cp];refine sf hV hT hΓ X (λz hz=>jZ hz) (nt:=fn.ntmps) (fix:=gi 0 c.ps) rfl (λz hz=>jY hz) H h1 h5 _ _ y _ J (λex s1 R a' w' hr=>?_) _ _ Z;obtain⟨a2,v,M,I⟩:=xT hT h4 hV u h2 R hr;have a1:a'.defers=[]:=by obtain⟨W,hr⟩:=hr;exact hr.df
  rcases a2 with rfl|rfl <;> exact⟨a1,v,M,I⟩
end
section
variable {P:Program}
def szB (P:Program)(t:TypeId)(n:Nat):Bool :=
 match P.info? t with
 |some i=>BJ i.size n
 |none=>false
theorem fN {t:TypeId}{n:Nat}(h:szB P t n=true):bQ P t n:=by
 unfold szB at h;unfold bQ;split at h
 ·rename_i i r;rw[r];simp only[Br];rw[BH h]
 ·cases h
def tR (P:Program)(t:TypeId)(agg:Bool):Bool :=
 match P.underlying t with
 |some (.struct _)|some (.array _ _)=>agg
 |some _=>!agg
 |none=>false
theorem qM {t:TypeId}{agg:Bool}(h:tR P t agg=true):(P.underlying t).map (λd=>match d with|.struct _|.array _ _=>true|_=>false)=some agg:=by
 unfold tR at h;split at h
 ·rename_i r;rw[r];simp[h]
 ·rename_i r;rw[r];simp[h]
 ·rename_i d y u r;rw[r];simp only[Br,BA];cases agg with
  |true=>cases h
  |false =>
   cases d <;> first|rfl|(exact absurd r (y _))|(exact absurd r (u _ _))
 ·cases h
theorem Ar {t:TypeId}{agg:Bool}(h:(P.underlying t).map (λd=>match d with|.struct _|.array _ _=>true|_=>false)=some agg)(w:World):(isAgg t).run P w=.ok agg w:=by
 unfold isAgg;cases r:P.underlying t with
 |none=>simp[r]at h
 |some u =>
  rw[r]at h;simp only[Br,BA]at h;subst h;rw[CF,run_underlying r w];cases u <;> rfl
def lC (P:Program)(f:Field)(off:Nat)(b:Ty):Bool:=(f.name != "_")&&BJ f.offset off&&szB P f.type b.cells&&tR P f.type b.isAgg
def eqF (P:Program)(g:Ty->TypeId->Bool):List Field->Nat->Ty->Bool
 |[],_,_=>false
 |[f],off,b=>lC P f off b&&g b f.type
 |f::r,off,.pair b c=>lC P f off b&&g b f.type&&eqF P g r (off+b.cells) c
 |_,_,_=>false
def eqT (P:Program):Nat->Ty->TypeId->Bool
 |0,_,_=>false
 |n+1,a,t=>match a with
  |.int k=>(match P.underlying t with|some (.int k')=>decide (k'=k)|_=>false)
  |.bool=>(match P.underlying t with|some .bool=>true|_=>false)
  |.str=>(match P.underlying t with|some .string=>true|_=>false)
  |.pair b c=>(match P.underlying t with|some (.struct fs)=>!P.stoodInHeld t&&eqF P (eqT P n) fs.toList 0 (.pair b c)|_=>false)
  |_=>false
theorem za:∀ (b:Ty),b.isAgg=false->b.cells=1
 |.int _,_=>rfl
 |.bool,_=>rfl
 |.str,_=>rfl
 |.list _ _ _,_=>rfl
 |.hdr,_=>rfl
 |.unit,h=>by cases h
 |.pair _ _,h=>by cases h
theorem my {f:Field}{off:Nat}{b:Ty}(h:lC P f off b=true){xs p c s:List Value}(M:xs=p++c++s)(J:p.length=off)(z:c.length=b.cells)(w:World) :
  ∃ v,(part f.type xs.toArray f.offset).run P w=.ok v w/\da b.isAgg v c:=by
 unfold lC at h;simp only[BC]at h;obtain⟨⟨⟨_,y⟩,X⟩,R⟩:=h;have y:=BH y;have r:=Ar (qM R) w;have H:=du (fN X) w;have u:(xs.drop off).take b.cells=c:=by
  rw[M,Bv,<- J,List.drop_left,<- z,List.take_left]
 cases I:b.isAgg with
 |true =>
  rw[I]at r;refine⟨.agg c.toArray,?_,rfl⟩;have e:xs.toArray.extract off (off+b.cells)=c.toArray:=by
   rw[List.extract_toArray,List.extract_eq_take_drop,Nat.add_sub_cancel_left,u]
  simp only[part,CF,r,B9,if_true,H,Co,y,e]
 |false =>
  rw[I]at r;have O:=za b I;rw[O]at z
  match c,z with
  |[v],_ =>
   refine⟨v,?_,rfl⟩;have e:xs.toArray[off]?=some v:=by
    simp only[List.getElem?_toArray];rw[M,Bv,BZ (by omega)];simp[J]
   simp only[part,CF,r,B9,CL,if_false,y,e,Co]
def zt (P:Program)(d:Nat)(b:Ty)(t:TypeId):Prop:=∀ (w:World) (G:Nat->Prop) (x y:b.den) (r z:Value) (H u:List Value),da b.isAgg r H->Rd w G b x H->da b.isAgg z u->Rd w G b y u ->
 (Op.equalIn d t r z).run P w=.ok (b.eqv x y) w
theorem xU {d:Nat}{g:Ty->TypeId->Bool}(hg:∀ b t,g b t=true->zt P d b t):∀ (fs:List Field) (off:Nat) (b:Ty),eqF P g fs off b=true->∀ (w:World) (G:Nat->Prop) (x y:b.den) (r J z M:List Value),
  r.length=off->z.length=off->Rd w G b x J->Rd w G b y M->(Op.eqFields d (r++J).toArray (z++M).toArray fs).run P w=.ok (b.eqv x y) w
 |[],_,_,h=>by simp[eqF]at h
 |[f],off,b,h=>by
  intro w G x y r J z M u H hx hy;simp only[eqF,BC]at h;obtain⟨v1,h1,h2⟩:=my h.1 (xs:=r++J) (p:=r) (c:=J) (s:=[]) (by simp) u hx.len w;obtain⟨v2,h3,h4⟩:=my h.1 (xs:=z++M) (p:=z) (c:=M) (s:=[]) (by simp) H hy.len w;have h5:=hg b f.type h.2 w G x y v1 v2 J M h2 hx h4 hy;have hn:f.name≠ "_" := by
   have:=h.1;unfold lC at this;simp only[BC]at this;simpa using this.1.1.1
  simp only[Op.eqFields,if_pos hn,CF,h1,h3,h5,B9];cases b.eqv x y <;> simp
 |f::O::fs,off,.pair b c,h=>by
  intro w G x y r J z M u H hx hy;simp only[eqF,BC]at h;obtain⟨⟨Y,a0⟩,X⟩:=h;obtain⟨c1,c2,rfl,R,a1⟩:=hx;obtain⟨Z,d2,rfl,I,a2⟩:=hy;obtain⟨v1,h1,h2⟩:=my Y (xs:=r++(c1++c2)) (p:=r) (c:=c1) (s:=c2) (by simp) u R.len w;obtain⟨v2,h3,h4⟩:=my Y (xs:=z++(Z++d2)) (p:=z) (c:=Z) (s:=d2) (by simp) H I.len w;have h5:=hg b f.type a0 w G x.1 y.1 v1 v2 c1 Z h2 R h4 I;have h6:=xU hg (O::fs) (off+b.cells) c X w G x.2 y.2 (r++c1) c2 (z++Z) d2 (by simp[u,R.len]) (by simp[H,I.len]) a1 a2;rw[Bv,Bv]at h6;have hn:f.name≠ "_" := by
   unfold lC at Y;simp only[BC]at Y;simpa using Y.1.1.1
  rw[Op.eqFields];simp only[if_pos hn,CF,h1,h3,h5,B9];show _=Result.ok (b.eqv x.1 y.1&&c.eqv x.2 y.2) w;cases b.eqv x.1 y.1 with
  |false=>simp
  |true=>simpa using h6
 |f::O::fs,off,.int _,h=>by simp[eqF]at h
 |f::O::fs,off,.bool,h=>by simp[eqF]at h
 |f::O::fs,off,.str,h=>by simp[eqF]at h
 |f::O::fs,off,.unit,h=>by simp[eqF]at h
 |f::O::fs,off,.list _ _ _,h=>by simp[eqF]at h
 |f::O::fs,off,.hdr,h=>by simp[eqF]at h
theorem rL (x y:ByteArray):(x==y)=decide (x=y):=by
 rw[beq_toListBytes];by_cases h:x=y
 ·subst h;simp
 ·rw[decide_eq_false h];cases r:(x.toList==y.toList) with
  |false=>rfl
  |true =>
   exfalso;apply h;have:=eq_of_beq r;rw[Ch,Ch]at this;apply ByteArray.ext;exact Array.ext' this
theorem xV:∀ (n:Nat) (a:Ty) (t:TypeId),eqT P n a t=true->∀ d,n<=d->zt P d a t
 |0,_,_,h=>by simp[eqT]at h
 |n+1,a,t,h=>by
  intro d hd;obtain⟨d,rfl⟩:∃ d',d=d'+1:=⟨d-1,by omega⟩;intro w G x y R O I J r H u z;cases a with
  |int k =>
   simp only[eqT]at h;split at h
   ·rename_i X M;have hk:=of_decide_eq_true h;subst hk;have H:I=[.int X x]:=H;have z:J=[.int X y]:=z;have r:I=[R]:=r;have u:J=[O]:=u;rw[H]at r;rw[z]at u;simp at r u;subst r;subst u;simp[Op.equalIn,run_underlying M,Ty.eqv];rfl
   ·cases h
  |bool =>
   simp only[eqT]at h;split at h
   ·rename_i M;have H:I=[.bool x]:=H;have z:J=[.bool y]:=z;have r:I=[R]:=r;have u:J=[O]:=u;rw[H]at r;rw[z]at u;simp at r u;subst r;subst u;simp[Op.equalIn,run_underlying M,Ty.eqv]
   ·cases h
  |str =>
   simp only[eqT]at h;split at h
   ·rename_i M;have H:I=[.string x]:=H;have z:J=[.string y]:=z;have r:I=[R]:=r;have u:J=[O]:=u;rw[H]at r;rw[z]at u;simp at r u;subst r;subst u;have:=rL x y;simp[Op.equalIn,run_underlying M,Ty.eqv,this]
   ·cases h
  |pair b c =>
   simp only[eqT]at h;split at h
   ·rename_i Y M;simp only[BC,B5]at h;have Z:P.fieldsOf t=Y:=by simp[Program.fieldsOf,M]
    have r:R=.agg I.toArray:=r;have u:O=.agg J.toArray:=u;subst r;subst u;rw[run_equalIn_struct (P:=P) w d t _ _ (by rw[Z];exact M) h.1,Z];have:=xU (P:=P) (λb t hb=>xV n b t hb d (by omega)) Y.toList 0 (.pair b c) h.2 w G x y [] I [] J rfl rfl H z;simpa using this
   ·cases h
  |unit=>simp[eqT]at h
  |hdr=>simp[eqT]at h
  |list m E e=>simp[eqT]at h
theorem At {t:TypeId}{a:Ty}(h:eqT P 64 a t=true)(u:a.isAgg=true):EqAt P t a:=by
 intro _ w G x y z r H I;have:=xV 64 a t h Op.maxDepth (by decide) w G x y (.agg z.toArray) (.agg r.toArray) z r (by rw[u];rfl) H (by rw[u];rfl) I;exact this
def wA:Value->Value->Bool
 |.int k n,.int u y=>decide (k=u)&&decide (n=y)
 |.bool b,.bool r=>b==r
 |.string s,.string z=>decide (s.toList=z.toList)
 |.slice none 0 0,.slice none 0 0=>true
 |.pointer none,.pointer none=>true
 |.nilFunc,.nilFunc=>true
 |_,_=>false
def kN:List Value->List Value->Bool
 |[],[]=>true
 |v::r,u::y=>wA v u&&kN r y
 |_,_=>false
theorem zb {v u:Value}(h:wA v u=true):v=u:=by
 unfold wA at h;split at h
 ·simp only[BC,decide_eq_true_eq]at h;rw[h.1,h.2]
 ·rw[eq_of_beq h]
 ·rename_i s y;have:s=y:=by
   have r:=rL s y;rw[beq_toListBytes,of_decide_eq_true h]at r;simpa using r.symm
  rw[this]
 ·rfl
 ·rfl
 ·rfl
 ·cases h
theorem mz:∀ {r us:List Value},kN r us=true->r=us
 |[],[],_=>rfl
 |v::r,u::us,h=>by
  simp only[kN,BC]at h;rw[zb h.1,mz h.2]
 |[],_::_,h=>by simp[kN]at h
 |_::_,[],h=>by simp[kN]at h
def zB (P:Program)(t:TypeId)(agg:Bool)(cs:List Value):Bool :=
 match P.info? t with
 |some i=>match i.zero with
  |some (.agg r)=>agg&&kN r.toList cs
  |some v=>!agg&&kN [v] cs
  |none=>false
 |none=>false
theorem xW {t:TypeId}{cs:List Value}(h:zB P t true cs=true):d5 P t (.agg cs.toArray):=by
 unfold zB at h;unfold d5;split at h
 ·rename_i i r;rw[r];split at h
  ·rename_i y u;simp only[Cj]at h;rw[Br,u,<- mz h,Array.toArray_toList]
  ·cases h
  ·cases h
 ·cases h
theorem lD {t:TypeId}{v:Value}(h:zB P t false [v]=true):d5 P t v:=by
 unfold zB at h;unfold d5;split at h
 ·rename_i i r;rw[r];split at h
  ·cases h
  ·rename_i u _ y;simp only[Cz,Cj]at h;have:=mz h;simp only[CX,and_true]at this;rw[Br,y,this]
  ·cases h
 ·cases h
def kc (P:Program)(n:Nat):List Field->List (Nat×Nat×Bool)->Bool
 |[],[]=>true
 |f::u,(off,k,agg)::r=>BJ f.offset off&&szB P f.type k&&tR P f.type agg&&CW 0 k&&Cd (off+k) n&&(agg||BJ k 1)&&kc P n u r
 |_,_=>false
def isU8:Ty->Bool
 |.int .u8=>true
 |_=>false
def u8B (P:Program)(E:TypeId):Bool :=
 match P.underlying E with
 |some (.int .u8)=>true
 |_=>false
def tiB (P:Program)(t:TypeId):TI->Bool
 |.int k=>(match P.underlying t with|some (.int k')=>decide (k'=k)|_=>false)&&szB P t 1&&zB P t false [.int k 0]
 |.bool=>(match P.underlying t with|some .bool=>true|_=>false)&&szB P t 1&&zB P t false [.bool false]
 |.str=>(match P.underlying t with|some .string=>true|_=>false)&&szB P t 1&&zB P t false [.string ByteArray.empty]
 |.slice E e r=>(match P.underlying t with|some (.slice E')=>BJ E' E|_=>false)&&szB P t 1&&zB P t false [.slice none 0 0]&&CW 0 e.cells&&CW 0 r &&
  szB P E e.cells&&(match P.info? E with | some i=>BJ i.bytes r&&(match i.zero with | some z=>kN z.cells.toList (zeroCells e) | none=>false) | none=>false)&&(!isU8 e||u8B P E)
 |.arr e n=>(match P.underlying t with|some (.array m E)=>BJ m n&&szB P E e.cells&&tR P E e.isAgg|_=>false)&&CW 0 e.cells&&szB P t (n*e.cells)&&zB P t true (List.replicate n (zeroCells e)).flatten
 |.struct a u=>(match P.underlying t with | some (.struct y)=>kc P a.cells y.toList u | _=>false)&&szB P t a.cells&&zB P t true (zeroCells a)&&a.isAgg&&(!a.flat||eqT P 64 a t)&&!P.eqGuardType P.depth t
 |.ptr=>(match P.underlying t with|some (.pointer _)=>true|_=>false)&&szB P t 1&&zB P t false [.pointer none]
 |.fn=>(match P.underlying t with|some (.func _ _ _)=>true|_=>false)&&szB P t 1&&zB P t false [.nilFunc]
 |.none=>true
theorem qh {n:Nat}:∀ {fs:List Field} {xs:List (Nat×Nat×Bool)},kc P n fs xs=true ->
  fs.mapM (λf=>(P.info? f.type).map λi=>(f.offset,i.size))=some (xs.map λx=>(x.1,x.2.1)) /\
  ∀ (i off k:Nat) (agg:Bool),xs[i]?=some (off,k,agg)->(agg=false->k=1)/\∃ f:Field,fs[i]?=some f/\f.offset=off/\0<k/\off+k<=n/\bQ P f.type k /\
   (P.underlying f.type).map (λd=>match d with|.struct _|.array _ _=>true|_=>false)=some agg
 |[],[],_=>⟨rfl,λi off k agg h=>by simp at h⟩
 |[],_::_,h=>by simp[kc]at h
 |_::_,[],h=>by simp[kc]at h
 |f::fs,(off,k,agg)::xs,h=>by
  simp only[kc,BC,CI]at h;obtain⟨⟨⟨⟨⟨⟨H,Y⟩,h3⟩,h4⟩,h5⟩,u⟩,h7⟩:=h;have H:=BH H;have r:=fN Y;obtain⟨R,M⟩:=qh h7;constructor
  ·unfold bQ at r;cases I:P.info? f.type with
   |none=>rw[I]at r;cases r
   |some i =>
    rw[I]at r;simp only[Br,BA]at r;simp[Cc,I,R,r,H]
  ·intro i z Z y J;cases i with
   |zero =>
    simp at J;obtain⟨rfl,rfl,rfl⟩:=J;refine⟨λha=>?_,f,rfl,H,by simpa[CD]using h4,Bu h5,r,qM h3⟩;rcases u with u|u
    ·rw[ha]at u;cases u
    ·exact BH u
   |succ i =>
    obtain⟨O,X,q2,q3⟩:=M i z Z y (by simpa using J);exact⟨O,X,by simpa using q2,q3⟩
theorem Bn {t:TypeId}{i:TI}(h:tiB P t i=true):oJ P t i:=by
 cases i with
 |none=>trivial
 |int k =>
  simp only[tiB,BC]at h;obtain⟨⟨r,H⟩,I⟩:=h;split at r
  ·rename_i k' u;rw[of_decide_eq_true r]at u;exact⟨u,fN H,lD I⟩
  ·cases r
 |bool =>
  simp only[tiB,BC]at h;obtain⟨⟨r,H⟩,I⟩:=h;split at r
  ·rename_i u;exact⟨u,fN H,lD I⟩
  ·cases r
 |str =>
  simp only[tiB,BC]at h;obtain⟨⟨r,H⟩,I⟩:=h;split at r
  ·rename_i u;exact⟨u,fN H,lD I⟩
  ·cases r
 |ptr =>
  simp only[tiB,BC]at h;obtain⟨⟨r,H⟩,I⟩:=h;split at r
  ·rename_i e u;exact⟨⟨e,u⟩,fN H,lD I⟩
  ·cases r
 |fn =>
  simp only[tiB,BC]at h;obtain⟨⟨r,H⟩,I⟩:=h;split at r
  ·rename_i x y z u;exact⟨⟨x,y,z,u⟩,fN H,lD I⟩
  ·cases r
 |slice E e a1 =>
  simp only[tiB,BC]at h;obtain⟨⟨⟨⟨⟨⟨⟨r,H⟩,I⟩,Y⟩,M⟩,Z⟩,R⟩,J⟩:=h;have a0:e=.int .u8->P.underlying E=some (.int .u8):=by
   intro he;subst he;have J:u8B P E=true:=by simpa[isU8]using J
   unfold u8B at J;split at J
   ·rename_i hq;exact hq
   ·cases J
  split at r
  ·rename_i E' u;rw[BH r]at u;split at R
   ·rename_i ti X;simp only[BC]at R;obtain⟨h8,h9⟩:=R;split at h9
    ·rename_i z hz;have O:=fN Z;unfold bQ at O;rw[X]at O;simp only[Br,BA]at O;exact⟨u,fN H,lD I,by simpa[CD]using Y,⟨by simpa[CD]using M,a0⟩,ti,z,X,O,BH h8,hz,mz h9⟩
    ·cases h9
   ·cases R
  ·cases r
 |arr e n =>
  simp only[tiB,BC]at h;obtain⟨⟨⟨r,H⟩,I⟩,Y⟩:=h;split at r
  ·rename_i m E u;simp only[BC]at r;obtain⟨⟨M,Z⟩,R⟩:=r;rw[BH M]at u;exact⟨⟨E,u,fN Z,qM R⟩,by simpa[CD]using H,fN I,xW Y⟩
  ·cases r
 |struct a a2 =>
  simp only[tiB,BC,CI,B5]at h;obtain⟨⟨⟨⟨⟨r,H⟩,I⟩,Y⟩,M⟩,Z⟩:=h;split at r
  ·rename_i fs u;obtain⟨R,h8⟩:=qh r;refine⟨⟨fs,u,R,λi off n agg hx=>?_⟩,fN H,xW I,?_,Z⟩
   ·obtain⟨q1,f,q2,q3⟩:=h8 i off n agg hx;exact⟨q1,f,by simpa using q2,q3⟩
   ·intro hf;rcases M with M|M
    ·rw[hf]at M;cases M
    ·exact At M Y hf
  ·cases r
def tlB (P:Program):List (TypeId×TI)->Bool
 |[]=>true
 |x::l=>tiB P x.1 x.2&&tlB P l
theorem hI:∀ {l:List (TypeId×TI)},tlB P l=true->TOk P (fY l):=by
 intro l h;refine sr ?_;induction l with
 |nil=>simp
 |cons x l u =>
  simp only[tlB,BC]at h;intro y r;rcases BO.1 r with rfl|r
  ·exact Bn h.1
  ·exact u h.2 y r
end
section
variable {P:Program} {T:TypeId->TI}
theorem nC (hT:TOk P T)(R:P.follows .mixedOrders=true){f:FuncId}{fn:Func}(hf:P.funcs[f]?=some fn)(hn:(fn.name== "runtime.NumGoroutine")=false) {E:TypeId} {e:Ty} {rs:List RK} {r:Bool}
  {X:ac [PK.rd (.list false E e)]->Option (aj rs×ai [PK.rd (.list false E e)])} {R0 A B C:Code} {rid:Nat} {o0 o1:Oper} {d0 q t t':Nat} {x0:Operand} {L:List (Nat×List (Nat×List Coe))} {K:Nat}
  (hb:fn.body=some (.seq R0 (.seq (.seq (.region rid #[o0,o1] false) (.cond (.tmp q) A B)) C))) (b3:o0.guard=none) (cy:o0.op=.move x0) (bn:o1.op=.binOp .eql t (.tmp d0) (.const (.slice none 0 0)) t') (c3:o1.guard=none) (b1:o1.dst=some q)
  {E':TypeId} (ht:P.underlying t=some (.slice E'))
  (a5:(dP fn.ntmps [] (.seq R0 (.seq (.seq (.region rid #[o0,o1] false) (.cond (.tmp q) A B)) C))&&Cd 1 fn.ntmps&&Cd fn.ntmps GH&&qm rs&&dp L [] (.seq R0 (.seq (.seq (.region rid #[o0,o1] false) (.cond (.tmp q) A B)) C)))=true)
  {S1:ac [PK.rd (.list false E e)]->St}
  (b5:∀ x,evK [] T L K R0 (aw (dj 0 [PK.rd (.list false E e)] x)) (qk (λs _=>act [] T o0 s (λU=>some (ae U s))) (λ_ _=>none))=some (S1 x))
  (M:∀ x,one (S1 x) (.tmp d0)=.ro true E e x.1)
  (hF:∀ x,evK [] T L K (.seq (.cond (.tmp q) A B) C) (ae (cl (S1 x) [] q .one [.bool false]) (S1 x)) (de T [PK.rd (.list false E e)] rs r fn.results.toList)=X x)
  (c1:∀ x y,x.1=[]->X x=some y->evK [] T L K (.seq (.cond (.tmp q) A B) C) (ae (cl (S1 x) [] q .one [.bool true]) (S1 x)) (de T [PK.rd (.list false E e)] rs r fn.results.toList)=some y) :
  bP P ⟨f,[PK.rd (.list false E e)],rs,r,X⟩:=by
 refine⟨dn hf hn hb,λw ro x vs u y a0 c2 c0 hy=>?_⟩;simp only[BC]at a5;obtain⟨⟨⟨⟨h1,h2⟩,h3⟩,h4⟩,h5⟩:=a5;have h2:=Bu h2;have h3:=Bu h3;have hV:ay (gb w ro [PK.rd (.list false E e)] vs u fn.ntmps):=⟨λk hk=>c2 k hk,h3⟩;have b4:=vi (P:=P) (ro:=ro) a0 c0 h2 h3;have hnoΓ:∀ c∈([]:List Ctr),bP P c:=by simp
 have ab:∀ z∈(gb w ro [PK.rd (.list false E e)] vs u fn.ntmps).fixb,z.1∈([]:List Nat):=λz hz=>jZ (ps:=[PK.rd (.list false E e)]) hz
 have O:∀ z∈(gb w ro [PK.rd (.list false E e)] vs u fn.ntmps).fixt,z.1∈([]:List Nat):=λz hz=>jY (ps:=[PK.rd (.list false E e)]) hz
 simp only[dP,BC]at h1;simp only[dp,BC]at h5;obtain⟨c6,⟨b2,c4⟩,c5⟩:=h1;obtain⟨cu,⟨_,cw⟩,cc⟩:=h5;refine calls_of_wp hf hb ?_;rw[Cp];generalize cb:bodyPost P fn (tt ⟨f,[PK.rd (.list false E e)],rs,r,X⟩ w ro vs u y)=Q;have hQ:∀ ex s1,de T [PK.rd (.list false E e)] rs r fn.results.toList ex s1=some y->∀ a H,Rel P (gb w ro [PK.rd (.list false E e)] vs u fn.ntmps) s1 a H->Q (exOf ex) a H:=by
  intro ex s1 b6 a' H J;obtain⟨bx,v,Y,b0⟩:=xT (c:=⟨f,[PK.rd (.list false E e)],rs,r,X⟩) hT h4 hV a0 h2 b6 J;have cp:a'.defers=[]:=by obtain⟨W,J⟩:=J;exact J.df
  subst cb;rcases bx with rfl|rfl <;> exact⟨cp,v,Y,b0⟩
 have a9:∀ (b:Bool),evK [] T L K (.seq (.cond (.tmp q) A B) C) (ae (cl (S1 x) [] q .one [.bool b]) (S1 x)) (de T [PK.rd (.list false E e)] rs r fn.results.toList)=some y ->
   ∀ a H,Rel P (gb w ro [PK.rd (.list false E e)] vs u fn.ntmps) (ae (cl (S1 x) [] q .one [.bool b]) (S1 x)) a H->(Code.cond (.tmp q) A B).wp P (Exit.then (C.wp P Q) Q) a H:=by
  intro b a6 a H J;refine sf hV hT hnoΓ R ab (nt:=fn.ntmps) (fix:=[]) rfl O (.cond (.tmp q) A B) (by simp only[dP,BC];exact c4) (by simp only[dp,BC];exact cw) _ _ y _ a6 (λex s1 I a H J=>?_) a H J;cases ex with
  |normal=>exact sf hV hT hnoΓ R ab (nt:=fn.ntmps) (fix:=[]) rfl O C c5 cc s1 _ y Q I hQ a H J
  |exit b9=>exact hQ (.exit b9) s1 I a H J
  |ret=>exact hQ .ret s1 I a H J
 have a4:∀ (i:Nat) (o:Oper),(#[o0,o1]:Array Oper)[i]?=some o->ln fn.ntmps [] #[o0,o1] o=true:=λi o hi=>by
  simp only[BX]at b2;exact b2 o (by simpa using CZ hi)
 refine wp_seq (sf hV hT hnoΓ R ab (nt:=fn.ntmps) (fix:=[]) rfl O R0 c6 cu _ _ (S1 x) _ (b5 x) (λex s0 I a H J=>?_) _ _ b4);cases ex with
 |exit b9=>cases I
 |ret=>cases I
 |normal =>
  have I:act [] T o0 s0 (λU=>some (ae U s0))=some (S1 x):=I;rw[tB]at I;obtain⟨U,hU,I⟩:=Bw.1 I;simp only[BA]at I;refine wp_seq (wp_seq (wp_region ?_));have a2:Cy (#[o0,o1]:Array Oper).size=[0,1]:=rfl;rw[a2,wpOps_cons];refine wv hV hT hnoΓ (ops:=#[o0,o1]) (i:=0) (o:=o0) rfl (mu rfl O (a4 0 o0 rfl)) (λj d1 hg=>by rw[b3]at hg;cases hg) (U:=U) (by unfold mq;rw[b3];exact hU) J (λa1 w1 Z=>?_);rw[I]at Z;rw[wpOps_cons];obtain⟨W1,Z⟩:=Z;have a3:bN (gb w ro [PK.rd (.list false E e)] vs u fn.ntmps) o1:=mu rfl O (a4 1 o1 rfl);obtain⟨h7,_,_,_,_⟩:=bq Z (.tmp d0) (by rw[M x];simp);rw[M x]at h7;obtain⟨A',bb,hv,_,cx⟩:=h7;have hv:a1.eval (.tmp d0)=.slice A' x.1.length bb:=by simpa using hv
  have ba:A'=none->x.1=[]:=λhA=>by
   cases hx:x.1 with
   |nil=>rfl
   |cons y ys =>
    obtain⟨g,o,bl,_⟩:=cx (by rw[hx];simp);rw[hA]at bl;cases bl
  have a6:evK [] T L K (.seq (.cond (.tmp q) A B) C) (ae (cl (S1 x) [] q .one [.bool A'.isNone]) (S1 x)) (de T [PK.rd (.list false E e)] rs r fn.results.toList)=some y:=by
   cases hA:A' with
   |none=>exact c1 x y (ba hA) hy
   |some ad=>exact (hF x).trans hy
  have Y:(execOp a1.eval o1).run P w1=.ok (.value (.bool A'.isNone)) w1:=by
   have:=Lib.run_eql_slice_nil (P:=P) w1 t E' A' x.1.length bb 0 0 ht;have hc:a1.eval (.const (.slice none 0 0))=.slice none 0 0:=rfl;simp[execOp,bn,hv,hc,eqGuard,this]
  unfold wpOp;have hi:(#[o0,o1]:Array Oper)[1]?=some o1:=rfl;simp only[hi];have hw:Region.wanted o1 (yielded #[o0,o1] a1.tmps)=true:=by simp[Region.wanted,c3]
  rw[if_pos hw];refine .inl (dW Y ?_);rw[b1];show Exit.then _ _ _ _ _;exact a9 _ a6 _ _ (Z.putLs hV q (a3 q b1).1 (a3 q b1).2 _ .one [.bool A'.isNone] (.bool A'.isNone) [.bool A'.isNone] (CA _) rfl ⟨⟨rfl,id,rfl⟩,trivial⟩)
end
open Go.ChangeShapes Go.WideShapes
section
variable {H:Type} {enc:TypeId×Value->H} {P:Program}
theorem mC (M:laidOutB P=true){W W':World}{J:Nat->Bool}:∀ {y:List TypeId} {z:List Value} {ds:List (DataW H)} {ps:List MemPlace},(∀ t∈y,P.readableRec t=true/\t<P.types.size) ->
  DataW.TrodAll enc P W 0 (λ_=>true) true y z ds ps->(∀ x∈ps,W.sameAt W' x)->(∀ x∈ps,J x.block=true)->DataW.TrodAll enc P W' 0 J true y z ds ps
 |[],[],[],_,_,h,_,_=>h
 |[],[],_::_,_,_,h,_,_=>h.elim
 |[],_::_,_,_,_,h,_,_=>h.elim
 |_::_,[],_,_,_,h,_,_=>h.elim
 |_::_,_::_,[],_,_,h,_,_=>h.elim
 |t::y,v::z,d::ds,ps,I,⟨p,q,Y,X,e⟩,O,u=>by
  subst e;refine⟨p,q,WideElems.Trod_stays M (I t (BG ..)).1 (I t (BG ..)).2 Y (λx r=>O x (BD _ r)) (λx r=>u x (BD _ r)),
   mC M (λZ R=>I Z (BF _ R)) X (λx r=>O x (BE _ r)) (λx r=>u x (BE _ r)),rfl⟩
theorem rU (hl:laidOutB P=true){f:Func}{s:ChangeSpec}{I R y O:Bool}{W W':World}{J:Array Value}{ds gs:List (DataW H)}{r:List MemPlace}
  (hW:DataW.Whole enc P f.params.toList s.vars I W J.toList ds gs r) (z:s.vars=[]) (hb:Below W.heap.size W W') (a0:∀ t∈f.params.toList,P.readableRec t=true/\t<P.types.size)
  {tb:TypeId} (Z:f.resultTypes=#[tb]) (u:P.underlying tb=some .bool) (a2:(s.fn H (ds++gs)).results=[.lit (.bool true)]) (X:(s.fn H (ds++gs)).args=ds) (a4:(s.fn H (ds++gs)).vars=[]) :
  s.post enc P f I R y O W J (.bool true) W':=by
 have a1:∀ p∈r,p.block<W.heap.size:=λp hp=>by simpa using hW.lt p hp
 have a6:=hW;obtain⟨p,q,hA,hV,e,hz,hn⟩:=hW;rw[z]at hV;obtain⟨rfl,rfl⟩:=trodVars_none hV;simp only[List.append_nil]at e;subst e;have Y:∀ x∈r,W.sameAt W' x:=λx hx=>hb.same (a1 x hx)
 have a3:(Value.bool true).resultList f.resultTypes.size=[.bool true]:=by rw[Z];rfl
 have hr:∀ (b:Nat) (M:Nat->Bool) (hd:Bool),DataW.TrodAll enc P W' b M hd f.resultTypes.toList ((Value.bool true).resultList f.resultTypes.size) (s.fn H (ds++[])).results []:=by
  intro b M hd;rw[a3,a2,Z];exact trodAll_mk1 (shut_bool u true)
 have ha:∀ (M:Nat->Bool),(∀ x∈r,M x.block=true)->DataW.TrodAll enc P W' 0 M true f.params.toList J.toList (s.fn H (ds++[])).args r:=by
  intro M a9;rw[X];exact mC hl a0 hA Y a9
 have hv:∀ (M:Nat->Bool),DataW.TrodVars enc P W' M s.vars (s.fn H (ds++[])).vars []:=by
  intro M;rw[z,a4];rfl
 refine⟨ds,[],r,[],r,[],a6,hr _ _ _,ha _ (λx hx=>by simpa using a1 x hx),hv _,hb.frame _,λ_=>⟨ok_one Z rfl (okWide_bool_mk u true),_,_,([]++r)++[],⟨[]++r,[],trodAll_append (ha _ (λ_ _=>rfl)) (hr _ _ _),hv _,rfl,?_,?_⟩,?_⟩⟩
 ·intro b off hp;have hp:MemPlace.cell b off∈r:=by simpa using hp
  rw[hb.frozen (p:=⟨b,off,none⟩) (a1 _ hp)];exact hz b off hp
 ·intro a5;have:=hn a5;simpa using this
 ·intro x hx _;simpa using hx
end
section
variable {H:Type} {enc:TypeId×Value->H} {P:Program} {w:World} {base:Nat} {spare:Nat->Bool} {held:Bool}
def shF (P:Program)(g:Ty->TypeId->Bool):List Field->Nat->Ty->Bool
 |[],_,_=>false
 |[f],off,b=>BJ f.offset off&&BJ (P.cellsOf f.type) b.cells&&g b f.type
 |f::r,off,.pair b c=>BJ f.offset off&&BJ (P.cellsOf f.type) b.cells&&g b f.type&&shF P g r (off+b.cells) c
 |_,_,_=>false
def shT (P:Program):Nat->Ty->TypeId->Bool
 |0,_,_=>false
 |n+1,a,t=>match a with
  |.int k=>(match P.underlying t with|some (.int k')=>decide (k'=k)|_=>false)
  |.bool=>(match P.underlying t with|some .bool=>true|_=>false)
  |.str=>(match P.underlying t with|some .string=>true|_=>false)
  |.pair b c=>(match P.underlying t with|some (.struct fs)=>shF P (shT P n) fs.toList 0 (.pair b c)&&BJ (P.cellsOf t) (b.cells+c.cells)|_=>false)
  |.list _ E e=>(match P.underlying t with|some (.slice E')=>BJ E' E&&BJ (P.cellsOf E) e.cells&&CW 0 e.cells&&shT P n e E|_=>false)
  |.unit=>false
  |.hdr=>false
def Sm:(a:Ty)->a.den->Prop
 |.int k,n=>(Lit.int k n).wf=true
 |.pair a b,x=>Sm a x.1/\Sm b x.2
 |.list _ _ e,r=>r.length<=maxLen/\∀ x∈(r:List e.den),Sm e x
 |.bool,_=>True
 |.str,s=>s.size<=maxLen
 |.unit,_=>True
 |.hdr,_=>True
theorem kO {α β:Type}{f:α->Option β}:∀ (l:List α) (r:List β),l.mapM f=some r->r.length=l.length/\∀ (i:Nat) (x:α),l[i]?=some x->∃ y,f x=some y/\r[i]?=some y
 |[],r,h=>by
  simp at h;subst h;exact⟨rfl,λi x X=>by simp at X⟩
 |x::l,r,h=>by
  rw[Cc]at h;cases I:f x with
  |none=>rw[I]at h;cases h
  |some y =>
   rw[I]at h;cases z:l.mapM f with
   |none=>rw[z]at h;cases h
   |some R =>
    rw[z]at h;cases h;obtain⟨O,M⟩:=kO l R z;refine⟨by simp[O],λi u J=>?_⟩;cases i with
    |zero=>simp at J;subst J;exact⟨y,I,rfl⟩
    |succ i=>simpa using M i u (by simpa using J)
theorem rM {a:Addr}{n:Nat}{cs:List Value}(h:w.cells? base a n=some cs):base<=a.block/\cs.length=n/\∀ i u,cs[i]?=some u->w.cell? (a.add i)=some u:=by
 unfold World.cells? at h;split at h
 ·rename_i J;obtain⟨r,M⟩:=kO _ _ h;refine⟨J,by simpa using r,λi u I=>?_⟩;have O:i<n:=by have:=(BK.1 I).1;rw[r]at this;simpa using this
  obtain⟨y,R,z⟩:=M i i (by simp[O]);rw[I]at z;cases z;exact R
 ·cases h
theorem oE {g:Ty->TypeId->Bool}{rd:TypeId->List Value->Option (DataW H×List MemPlace)}
  (Z:∀ b t,g b t=true->∀ cs d,rd t cs=some d->∃ x:b.den,Rd w (λk=>k<w.heap.size) b x cs/\Sm b x) :
  ∀ (fs:List Field) (off:Nat) (b:Ty),shF P g fs off b=true->∀ (cs:List Value),cs.length=off+b.cells ->
   (∀ f∈fs,∃ d,rd f.type ((cs.drop f.offset).take (P.cellsOf f.type))=some d)->∃ x:b.den,Rd w (λk=>k<w.heap.size) b x (cs.drop off)/\Sm b x
 |[],_,_,h=>by simp[shF]at h
 |[f],off,b,h=>by
  intro cs I M;simp only[shF,BC]at h;obtain⟨⟨z,u⟩,R⟩:=h;have z:=BH z;have u:=BH u;obtain⟨d,J⟩:=M f (BG ..);rw[z,u,List.take_of_length_le (by simp;omega)]at J;exact Z b f.type R _ d J
 |f::r::fs,off,.pair b c,h=>by
  intro cs I M;simp only[shF,BC]at h;obtain⟨⟨⟨z,u⟩,R⟩,h4⟩:=h;have z:=BH z;have u:=BH u;have I:cs.length=off+(b.cells+c.cells):=I;obtain⟨d,J⟩:=M f (BG ..);rw[z,u]at J;obtain⟨x,hx,O⟩:=Z b f.type R _ d J;obtain⟨y,hy,X⟩:=oE Z (r::fs) (off+b.cells) c h4 cs (by omega) (λf0 Y=>M f0 (BF _ Y));refine⟨(x,y),⟨_,_,?_,hx,hy⟩,O,X⟩;rw[<- Ca,List.take_append_drop]
 |f::r::fs,off,.int _,h=>by simp[shF]at h
 |f::r::fs,off,.bool,h=>by simp[shF]at h
 |f::r::fs,off,.str,h=>by simp[shF]at h
 |f::r::fs,off,.unit,h=>by simp[shF]at h
 |f::r::fs,off,.list _ _ _,h=>by simp[shF]at h
 |f::r::fs,off,.hdr,h=>by simp[shF]at h
theorem oF {β:Type}(Q:Nat->β->Prop):∀ (n:Nat),(∀ i,i<n->∃ x,Q i x)->∃ u:List β,u.length=n/\∀ i x,u[i]?=some x->Q i x
 |0,_=>⟨[],rfl,λi x h=>by simp at h⟩
 |n+1,h=>by
  obtain⟨u,I,J⟩:=oF Q n (λi M=>h i (by omega));obtain⟨x,O⟩:=h n (by omega);refine⟨u++[x],by simp[I],λi y r=>?_⟩;by_cases M:i<n
  ·rw[Bs (by omega)]at r;exact J i y r
  ·have z:i<(u++[x]).length:=(BK.1 r).1;have:i=n:=by simp at z;omega
   subst this;rw[BZ (by omega),I,Nat.sub_self]at r;simp at r;subst r;exact O
theorem qN:∀ (n:Nat) (a:Ty) (t:TypeId),shT P n a t=true->∀ (I:Nat) (cs:List Value) (d:DataW H×List MemPlace),DataW.trod enc P w base spare held I t cs=some d ->
    ∃ x:a.den,Rd w (λk=>k<w.heap.size) a x cs/\Sm a x
  |0,_,_,h=>by simp[shT]at h
  |n+1,a,t,h=>by
    intro I cs d r;cases I with
    |zero=>simp[DataW.trod]at r
    |succ I =>
      cases a with
      |int k =>
        simp only[shT]at h;split at h
        · rename_i k' O
          have hk:=of_decide_eq_true h;subst hk;simp only[DataW.trod,O]at r;split at r <;> first|(rename_i M;cases M;done)|skip
          all_goals first
            | (rename_i k1 k2 m J
               cases J;split at r
               · rename_i hw
                 obtain⟨rfl,hw⟩:=hw;exact⟨m,rfl,hw⟩
               · cases r)
            |cases r
        · cases h
      |bool =>
        simp only[shT]at h;split at h
        · rename_i O
          simp only[DataW.trod,O]at r;split at r <;> first|(rename_i M;cases M;done)|skip
          all_goals first
            |(rename_i b J;exact⟨b,rfl,trivial⟩)
            |cases r
        · cases h
      |str =>
        simp only[shT]at h;split at h
        · rename_i O
          simp only[DataW.trod,O]at r;split at r <;> first|(rename_i M;cases M;done)|skip
          all_goals first
            | (rename_i b J
               split at r
               · rename_i hb
                 exact⟨b,rfl,hb⟩
               · cases r)
            |cases r
        · cases h
      |unit=>simp[shT]at h
      |hdr=>simp[shT]at h
      |pair b c =>
        simp only[shT]at h;split at h
        · rename_i fs O
          simp only[BC]at h;obtain⟨h1,h2⟩:=h;have h2:=BH h2;simp only[DataW.trod,O]at r;split at r
          · rename_i a1
            simp only[BI]at r;obtain⟨ys,b3,_⟩:=r;obtain⟨h3,h4⟩:=kO _ _ b3;have:=oE (w:=w) (rd:=DataW.trod enc P w base spare held I) (λb t hb cs d r=>qN n b t hb I cs d r) fs.toList 0 (.pair b c) h1 cs (by rw[a1,h2,CB];rfl) (λf hf=>by
              obtain⟨i,hi,e⟩:=Ci hf;obtain⟨y,h5,_⟩:=h4 i f (by rw[BR hi,e]);exact⟨y,h5⟩)
            simpa using this
          · cases r
        · cases h
      |list m E e =>
        simp only[shT]at h;split at h
        · rename_i E' O
          simp only[BC]at h;obtain⟨⟨⟨h1,h2⟩,h3⟩,h4⟩:=h;have h1:=BH h1;subst h1;have h2:=BH h2;have h3:0<e.cells:=by simpa[CD]using h3
          simp only[DataW.trod,O]at r;split at r <;> first|(rename_i M;cases M;done)|skip
          all_goals first
            |cases r;done
            |skip
          · exact⟨[],Rd.nil w _ m _ e,Cu _,by simp⟩
          · rename_i E2 R a4 b1 J
            cases J;split at r
            · rename_i hc
              obtain⟨ab,b9,b5⟩:=hc;obtain⟨ba,a3,_⟩:=Bw.1 r;obtain⟨h5,h6⟩:=kO _ _ a3;have b4:∀ i,i<a4->∃ x:e.den,∃ c,w.cells? base (R.add (i*e.cells)) e.cells=some c/\Rd w (λk=>k<w.heap.size) e x c/\Sm e x:=by
                intro i hi;obtain⟨y,h7,_⟩:=h6 i i (by simp[hi]);obtain⟨c,h8,h9⟩:=Bw.1 h7;rw[h2]at h8;obtain⟨x,hx,b2⟩:=qN n e _ h4 I c y h9;exact⟨x,c,h8,hx,b2⟩
              obtain⟨xs,b0,X⟩:=oF (λi (x:e.den)=>∃ c,w.cells? base (R.add (i*e.cells)) e.cells=some c/\Rd w (λk=>k<w.heap.size) e x c/\Sm e x) a4 b4;refine⟨xs,⟨some R,b1,by rw[b0],by omega,λhp=>?_⟩,by omega,λx hx=>?_⟩
              · have a9:0<xs.length:=hp
                obtain⟨c,Y,a2,_⟩:=X 0 xs[0] (BR a9);obtain⟨_,b6,a0⟩:=rM Y;have h0:0<c.length:=by omega
                have z:=a0 0 c[0] (BR h0);have e0:(R.add (0*e.cells)).add 0=R:=by simp[Addr.add]
                rw[e0]at z;have Z:R.spot=none/\R.block<w.heap.size:=by
                  unfold World.cell? at z;split at z
                  · rename_i hh
                    split at z
                    · cases z
                    · rename_i hs
                      refine⟨by simpa using hs,(CN.1 hh).1⟩
                  · cases z
                obtain⟨g,o,sp⟩:=R;obtain⟨a5,a6⟩:=Z;simp only at a5 a6;subst a5;refine⟨g,o,rfl,a6,λj x hj=>?_⟩;obtain⟨c,Y,a2,_⟩:=X j x hj;obtain⟨_,_,a0⟩:=rM Y;refine⟨c,a2,λi u hi=>?_⟩;have:=a0 i u hi
                rwa [eU,eU]at this
              · obtain⟨j,hj,e1⟩:=Ci hx
                obtain⟨c,_,_,hs⟩:=X j x (by rw[BR hj,e1]);exact hs
            · cases r
        · cases h
end
section
variable {H:Type} {enc:TypeId×Value->H} {P:Program} {w:World}
theorem zc {n:Nat}{a:Ty}{t:TypeId}(r:shT P (n+1) a t=true){v:Value}{d:DataW H}{p:List MemPlace}(J:DataW.Trod enc P w 0 (λ_=>true) true t v d p){base:Nat}(u:C3 P w .any base t v) :
  ∃ x:a.den,(∃ z,da a.isAgg v z/\Rd w (λk=>k<w.heap.size) a x z)/\Sm a x:=by
 obtain⟨I,J⟩:=J;obtain⟨x,X,M⟩:=qN (n+1) a t r I _ _ J;refine⟨x,⟨v.cells.toList,?_,X⟩,M⟩;cases a with
 |int k =>
  simp only[shT]at r;split at r
  ·rename_i Z y;obtain⟨n,rfl⟩:=okWide_int y u;rfl
  ·cases r
 |bool =>
  simp only[shT]at r;split at r
  ·rename_i y;obtain⟨n,rfl⟩:=okWide_bool y u;rfl
  ·cases r
 |str =>
  simp only[shT]at r;split at r
  ·rename_i y;obtain⟨n,rfl⟩:=okWide_string y u;rfl
  ·cases r
 |list m E e =>
  simp only[shT]at r;split at r
  ·rename_i Y y;obtain⟨A,R,O,rfl⟩:=okWide_slice y u;rfl
  ·cases r
 |unit=>simp[shT]at r
 |hdr=>simp[shT]at r
 |pair b c =>
  simp only[shT]at r;split at r
  ·rename_i fs y;obtain⟨z,rfl,_⟩:=okWide_struct y u;show Value.agg z=.agg (Value.agg z).cells.toList.toArray;simp[Value.cells]
  ·cases r
def Sms:(as:List Ty)->ac (as.map .rd)->Prop
 |[],_=>True
 |a::as,x=>Sm a x.1/\Sms as x.2
def tS (P:Program):List Ty->List TypeId->Bool
 |[],[]=>true
 |a::as,t::r=>shT P 64 a t&&tS P as r
 |_,_=>false
theorem rN {pr:Nat->Prop}:∀ (as:List Ty) (z:List TypeId) (u:List Value) (ds:List (DataW H)) (ps:List MemPlace),tS P as z=true->DataW.TrodAll enc P w 0 (λ_=>true) true z u ds ps ->
  (∃ r,∀ (j:Nat) (t:TypeId) (v:Value),z[j]?=some t->u[j]?=some v->C3 P w .any r t v)->∃ x:ac (as.map .rd),c8 P w (λk=>k<w.heap.size) pr (as.map .rd) x u (as.map λ_=>[])/\Sms as x
 |[],[],[],[],_,_,_,_=>⟨(),⟨rfl,rfl⟩,trivial⟩
 |[],[],[],_::_,_,_,h,_=>h.elim
 |[],[],_::_,_,_,_,h,_=>h.elim
 |[],_::_,_,_,_,h,_,_=>by simp[tS]at h
 |_::_,[],_,_,_,h,_,_=>by simp[tS]at h
 |_::_,_::_,[],_,_,_,h,_=>h.elim
 |_::_,_::_,_::_,[],_,_,h,_=>h.elim
 |a::as,t::z,v::u,d::ds,ps,O,⟨p,q,X,R,_⟩,⟨r,I⟩=>by
  simp only[tS,BC]at O;obtain⟨x,hx,J⟩:=zc (n:=63) O.1 X (I 0 t v rfl rfl);obtain⟨y,hy,M⟩:=rN as z u ds q O.2 R ⟨r,λj Z v' h3 Y=>I (j+1) Z v' (by simpa using h3) (by simpa using Y)⟩;exact⟨(x,y),⟨v,u,[],_,rfl,rfl,⟨rfl,hx⟩,hy⟩,J,M⟩
theorem zd (tys:List Ty):(tys.map λ_=>([]:List Nat)).flatten=[]:=by
 induction tys with
 |nil=>rfl
 |cons a tys r=>simp
theorem xX {f:FuncId}{tys:List Ty}{y:Bool}{M:ac (tys.map PK.rd)->Option (aj [.v .bool]×ai (tys.map PK.rd))}(hs:bP P ⟨f,tys.map .rd,[.v .bool],y,M⟩){x:ac (tys.map .rd)}{vs:List Value}{o:ai (tys.map .rd)}
  (hx:c8 P w (λk=>k<w.heap.size) (λk=>k<w.heap.size) (tys.map .rd) x vs (tys.map λ_=>[])) (hd:M x=some ((true,()),o)):Calls P f vs.toArray w (λe w'=>e=.returned (.bool true)/\Below w.heap.size w w'):=by
 have R:=zd tys;have:=hs.2 w (λk=>k<w.heap.size) x vs _ _ (hx.mono (λ_ h=>h) (λk I=>⟨I,by rw[R];simp⟩)) (λk I=>⟨I,by rw[R];simp⟩) (by rw[R];exact CP) hd;refine this.mono λe w' hp=>?_
 obtain⟨v,us,N,a5,a3,rfl,r,Y,Z,a0,X,a1,_,_,J,_,_⟩:=hp;refine⟨?_,⟨Z,a0,X,Y,λk I=>a1 k I (by rw[R];simp)⟩⟩;obtain⟨u,a4,b,a2,e1,e2,⟨cs,z,O⟩,e3,e4⟩:=J;subst e3;subst e1;have r:v=u:=r;subst r;have z:cs=[v]:=z;have O:cs=[.bool true]:=O.1;rw[z]at O;simp only[CX,and_true]at O;rw[O]
end
end Go.Proofs.YtaelpfghkndliaaGreatEv
