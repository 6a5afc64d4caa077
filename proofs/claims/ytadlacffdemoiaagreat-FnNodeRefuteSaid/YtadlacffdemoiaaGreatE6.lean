/- One operation looks at some slots alone. -/
import Derived.Test.YtadlacffdemoiaaGreatE3
import Derived.Laws.StructEq
import Derived.Lib.SliceRun
import Derived.ProofKit
set_option linter.unusedVariables false
set_option linter.unusedSimpArgs false
open Array renaming getElem?_eq_getElem->BM,getD_eq_getD_getElem?->BN,replicate->B6,all_eq_true_iff_forall_mem->CH,getElem?_eq_some_iff->CQ,getElem?_append_left->CR,getElem?_replicate->CX,mem_of_getElem?->Cc,length_toList->Ci,mem_append->Cu
open Bool renaming and_eq_true->BC,not_eq_true'->B8,or_eq_true->CL,false_eq_true->CO,and_false->CP,and_true->CW,true_and->Cm,not_false->C4
open Classical renaming byContradiction->Bw
open Go.ByteArray renaming toList_eq->Ck
open Go.Result renaming andThen_ok->CC
open Go.Sem renaming run_bind->CI,run_pure->Cr
open Go.Value renaming okWide->C6
open List renaming mem_append->BB,mem_append_left->BD,mem_append_right->BE,mem_cons_of_mem->BF,mem_cons_self->BG,getElem?_eq_some_iff->BK,mem_map->BL,mem_cons->BO,getD_eq_getElem?_getD->BP,flatten_cons->BQ,getElem?_eq_getElem->BR,mem_flatMap->BT,count_append->BU,mem_singleton_self->BV,count_pos_iff->BW,all_eq_true->BX,map_cons->BY,getElem?_append_right->BZ,getElem?_append_left->Bv,append_assoc->By,nil_append->B3,mem_singleton->B4,nodup_cons->B5,length_cons->CA,nodup_append->CB,mem_filter->CF,any_eq_true->CK,map_append->CM,count_cons->CN,nodup_nil->CS,count_eq_zero->CT,any_eq_false->CU,all_cons->CV,getElem?_cons_succ->CY,getElem?_eq_none->Cb,drop_drop->Cd,mapM_cons->Cf,map_congr_left->Ch,countP_eq_zero->Cj,getElem_of_mem->Cl,set_cons_succ->Cn,find?_eq_none->Cp,getElem?_map->Cq,size_toArray->Cs,mem_toArray->Ct,countP_cons->Cv,foldl_cons->Cz,range->C3,map_nil->C5
open List.cons renaming injEq->Ca
open Nat renaming eq_of_beq_eq_true->BH,beq->BJ,le_of_ble_eq_true->Bx,lt_succ_self->CD,zero_add->CE,blt_eq->CG,blt->CZ,le_refl->Ce,ble->Cg,lt_of_lt_of_le->Co,zero_le->Cx,strongRecOn->C0
open Option renaming map_eq_some_iff->BI,map_some->Bu,bind_eq_some_iff->Bz,bind_assoc->B7,bind_some->B9,bind_none->CJ,getD_some->Cw
open Option.some renaming injEq->BA,inj->Cy
open Prod.mk renaming injEq->BS
namespace Go.Proofs.YtadlacffdemoiaaGreatEv
open Go Go.RowKit
section
variable {P:Program} {V:Env} {Γ:List Ctr} {T:TypeId->TI} {st st':St} {o:Oper} {R:Type} {κ:Upd->Option R} {r:R}
theorem gC {α β:Type}(b:Bool)(x y:Option α)(f:α->Option β):(bif b then x else y).bind f=bif b then x.bind f else y.bind f:=by cases b <;> rfl
theorem wg {b:Option (Bool×Nat×Nat)}{U:Upd}:jM st b U κ=(jM st b U some).bind κ:=by
 unfold jM;split
 ·split
  ·simp only[B7];congr 1;funext y;split <;> rfl
  ·rfl
 ·rfl
theorem wh {d:Nat}{f:FuncId}{xs:List (aI×List Leaf)}:jl Γ st d f xs κ=(jl Γ st d f xs some).bind κ:=by
 unfold jl;cases lH Γ f with
 |none=>rfl
 |some c =>
  simp only[gB,B7];congr 1;funext u;cases oI Γ (ac u.1 st) c.ps u.2.1 with
  |none=>rfl
  |some g =>
   simp only[gC,B7,CJ];congr 2;funext y;exact wg
theorem mz {z:St}{H:Upd}{d:Nat}{E:TypeId}{e:Ty}{u:Nat}{p:Bool}{xs:List e.den}{ks:List (Nat×Nat)}{y:Leaf}:dS st z H d E e u p xs ks y κ=(dS st z H d E e u p xs ks y some).bind κ:=by
 unfold dS;split
 ·simp only[gC,CJ,B9]
 ·rfl
theorem tw {z:Upd}{d:Nat}{E:TypeId}{e:Ty}{u:Nat}{x y:Leaf}:eo st z d E e u x y κ=(eo st z d E e u x y some).bind κ:=by
 unfold eo;split
 ·split
  ·rw[gC,<- mz];rfl
  ·rfl
 ·exact mz
 ·rfl
theorem tx {d:Nat}{E:TypeId}{e:Ty}{u:Nat}{x y:Leaf}:iv st d E e u x y κ=(iv st d E e u x y some).bind κ:=by
 unfold iv;simp only[hH,gC,B7,<- tw]
theorem ni {r j i off n:Nat}{p:Bool}{E:TypeId}{e:Ty}{xs:List e.den}{h:Option (Nat×Nat)}{ls:List Leaf}:gH st r j i off n p E e xs h ls κ=(gH st r j i off n p E e xs h ls some).bind κ:=by
 unfold gH;simp only[B7];congr 1;funext u;split
 ·rw[gC];congr 1;split
  ·rfl
  ·simp only[gC,B9,CJ]
 ·rfl
theorem tz:act Γ T o st κ=(act Γ T o st some).bind κ:=by
 cases u:o.op <;> simp only[act,wrU,u] <;> (repeat' split) <;>
  (try simp only[gC,B7,CJ,B9]) <;> (try rfl) <;> (try exact wh) <;> (try (rw[tx];done)) <;> (try (rw[ni];done)) <;> (try (rw[<- ni];done))
theorem bi {q:Nat}(h:st' q=st q):∀ (U:Upd),ac U st' q=ac U st q
 |[]=>h
 |(r,c)::U=>by simp only[ac,bi h U]
theorem dR {x:Operand}(h:∀ t,x=.tmp t->st' t=st t):au st' x=au st x:=by
 cases x with
 |tmp t=>simp only[au,h t rfl]
 |_=>rfl
theorem dD {x:Operand}(h:∀ t,x=.tmp t->st' t=st t):one st' x=one st x:=by
 unfold one;rw[dR h]
theorem k8:∀ (u y:List Leaf),aw (u++y)=aw u++aw y
 |[],_=>rfl
 |l::u,y=>by cases l <;> simp[aw,k8 u y]
theorem aL (l:Leaf)(ls:List Leaf):aw (l::ls)=aw [l]++aw ls:=k8 [l] ls
theorem fA:∀ (n:Nat) (ls:List Leaf) (q:Nat),q∈aw (ls.drop n)->q∈aw ls
 |0,_,_,h=>h
 |n+1,[],_,h=>h
 |n+1,l::ls,q,h=>by rw[aL];exact BE _ (fA n ls q h)
theorem ru:∀ (n:Nat) (ls:List Leaf) (q:Nat),q∈aw (ls.take n)->q∈aw ls
 |0,_,_,h=>by simp[aw]at h
 |n+1,[],_,h=>by simp[aw]at h
 |n+1,l::ls,q,h=>by
  rw[List.take_succ_cons,aL,BB]at h;rw[aL,BB];exact h.imp id (ru n ls q)
theorem qF:∀ {ls:List Leaf} {k:Nat} {l:Leaf},ls[k]?=some l->∀ q∈aw [l],q∈aw ls
 |[],_,_,h,_,_=>by simp at h
 |y::ls,0,l,h,q,u=>by simp at h;subst h;rw[aL];exact BD _ u
 |y::ls,k+1,l,h,q,u=>by rw[aL];exact BE _ (qF (by simpa using h) q u)
theorem jA {ks:List (Nat×Nat×Nat)}{ep:Nat}(h:∀ q∈EPO::ks.map (·.1),st' q=st q):bm st' ks ep=bm st ks ep:=by
 unfold bm;rw[h EPO (BG ..)];congr 1;induction ks with
 |nil=>rfl
 |cons k ks y =>
  rw[CV,CV,y (λq u=>h q (by simp at u ⊢;rcases u with u|u;exact .inl u;exact .inr (.inr u))),h k.1 (by simp)]
theorem ir {p:Bool}{ks:List (Nat×Nat×Nat)}{ep:Nat}{u:Option (Nat×Nat×Nat)}{E:TypeId}{e:Ty}{xs:List e.den}:aw [.nal p ks ep u E e xs]=EPO::ks.map (·.1):=by simp[aw]
theorem uZ {p:Bool}{ks:List (Nat×Nat×Nat)}{ep:Nat}{a:Ty}{x:a.den}{off:Nat}:aw [.np p ks ep a x off]=EPO::ks.map (·.1):=by simp[aw]
theorem ci {l:Leaf}(h:∀ q∈aw [l],st' q=st q):aD st' l=aD st l:=by
 cases l with
 |al r j v=>simp only[aD,h r (by simp[aw])]
 |nal p z ep u E e y=>rw[ir]at h;simp only[aD,jA h]
 |_=>rfl
theorem jK:∀ (a:Ty) (ls:List Leaf) (p:Bool) (x:a.den) (u:List Leaf),aZ st a ls=some (p,x,u)->∃ J,ls=J++u
 |.int k,ls,p,x,u,h=>by
  simp only[aZ]at h;split at h
  ·split at h
   ·simp at h;exact⟨[_],by rw[<- h.2.2];rfl⟩
   ·cases h
  ·cases h
 |.bool,ls,p,x,u,h=>by
  simp only[aZ]at h;split at h
  ·simp at h;exact⟨[_],by rw[<- h.2.2];rfl⟩
  ·cases h
 |.str,ls,p,x,u,h=>by
  simp only[aZ]at h;split at h
  ·simp at h;exact⟨[_],by rw[<- h.2.2];rfl⟩
  ·cases h
 |.unit,ls,p,x,u,h=>by
  simp only[aZ,BA,BS]at h;exact⟨[],by rw[h.2.2];rfl⟩
 |.hdr,ls,p,x,u,h=>by
  simp only[aZ]at h;split at h
  ·split at h
   ·simp at h;exact⟨[_],by rw[<- h.2.2];rfl⟩
   ·cases h
  ·cases h
 |.pair a b,ls,p,x,u,h=>by
  simp only[aZ]at h;split at h
  ·rename_i q y H X;split at h
   ·rename_i M z I Z;simp at h;obtain⟨J,O⟩:=jK a ls q y H X;obtain⟨Y,e2⟩:=jK b H M z I Z;exact⟨J++Y,by rw[O,e2,h.2.2,By]⟩
   ·cases h
  ·cases h
 |.list m E e,ls,p,x,u,h=>by
  simp only[aZ]at h;split at h
  ·split at h
   ·simp at h;exact⟨[_],by rw[<- h.2.2];rfl⟩
   ·cases h
  ·cases h
theorem gD:∀ (a:Ty) (ls:List Leaf),(∀ q∈aw ls,st' q=st q)->aZ st' a ls=aZ st a ls
 |.int k,ls,h=>rfl
 |.bool,ls,h=>rfl
 |.str,ls,h=>rfl
 |.unit,ls,h=>rfl
 |.hdr,ls,h=>by
  cases ls with
  |nil=>rfl
  |cons l ls =>
   simp only[aZ];rw[ci (l:=l) (λq z=>h q (by rw[aL];exact BD _ z))]
 |.pair a b,ls,h=>by
  simp only[aZ,gD a ls h];cases I:aZ st a ls with
  |none=>rfl
  |some x =>
   obtain⟨p,y,u⟩:=x;obtain⟨J,H⟩:=jK a ls p y u I;simp only;rw[gD b u (λq z=>h q (by rw[H,k8];exact BE _ z))]
 |.list m E e,ls,h=>by
  cases ls with
  |nil=>rfl
  |cons l ls =>
   simp only[aZ];rw[ci (l:=l) (λq z=>h q (by rw[aL];exact BD _ z))]
theorem eC {a:Ty}{ls:List Leaf}(h:∀ q∈aw ls,st' q=st q):cN st' a ls=cN st a ls:=by
 unfold cN;rw[gD a ls h]
theorem nj {e:Ty}:∀ (n:Nat) (ls:List Leaf),(∀ q∈aw ls,st' q=st q)->fw st' e n ls=fw st e n ls
 |0,_,_=>rfl
 |n+1,ls,h=>by
  simp only[fw,eC (ls:=ls.take e.cells) (λq u=>h q (ru _ _ q u)),nj n (ls.drop e.cells) (λq u=>h q (fA _ _ q u))]
theorem je:∀ {ls:List Leaf},(∀ q∈aw ls,st' q=st q)->bw st' ls=bw st ls
 |[],_=>rfl
 |l::ls,h=>by
  have y:=je (ls:=ls) (λq u=>h q (by rw[aL];exact BE _ u));cases l with
  |al r j v=>simp only[bw,y,ci (l:=.al r j v) (λq u=>h q (by rw[aL];exact BD _ u))]
  |nal p I ep z E e H=>simp only[bw,y,ci (l:=.nal p I ep z E e H) (λq u=>h q (by rw[aL];exact BD _ u))]
  |_=>simpa[bw]using y
theorem o9:∀ {ls:List Leaf},(∀ q∈aw ls,st' q=st q)->b7 st' ls=b7 st ls
 |[],_=>rfl
 |l::ls,h=>by
  have y:=o9 (ls:=ls) (λq u=>h q (by rw[aL];exact BE _ u));cases l with
  |al r j v=>simp only[b7,y,ci (l:=.al r j v) (λq u=>h q (by rw[aL];exact BD _ u))]
  |_=>simpa[b7]using y
theorem qG:∀ {ls:List Leaf},(∀ q∈aw ls,st' q=st q)->dx st' ls=dx st ls
 |[],_=>rfl
 |l::ls,h=>by
  have u:=qG (ls:=ls) (λq y=>h q (by rw[aL];exact BE _ y));cases l with
  |nal p I ep z E e H =>
   cases z with
   |none=>simp only[dx,u,ci (l:=.nal p I ep none E e H) (λq y=>h q (by rw[aL];exact BD _ y))]
   |some x=>simpa[dx]using u
  |_=>simpa[dx]using u
theorem pa {ls:List Leaf}(h:∀ q∈aw ls,st' q=st q):dG st' ls=dG st ls:=by
 unfold dG;induction ls with
 |nil=>rfl
 |cons l ls y =>
  rw[BY,BY,y (λq u=>h q (by rw[aL];exact BE _ u))];unfold ge;rw[ci (λq u=>h q (by rw[aL];exact BD _ u))]
theorem eu:∀ {ls:List Leaf} {x:Nat×Nat},x∈bw st ls->x.1∈aw ls
 |[],_,h=>by simp[bw]at h
 |l::ls,x,h=>by
  cases l with
  |al r j v =>
   simp only[bw,BB]at h;rcases h with h|h
   ·split at h
    ·simp at h;subst h;simp[aw]
    ·simp at h
   ·rw[aL];exact BE _ (eu h)
  |nal p H ep y E e z =>
   simp only[bw,BB]at h;rcases h with h|h
   ·split at h
    ·obtain⟨k,u,rfl⟩:=BL.1 h;rw[aL,ir];exact BD _ (BF _ (BL.2 ⟨k,u,rfl⟩))
    ·simp at h
   ·rw[aL];exact BE _ (eu h)
  |_=>(simp only[bw]at h;rw[aL];exact BE _ (eu h))
theorem jf:∀ {ls:List Leaf} {x:Nat×Nat},x∈b7 st ls->x.1∈aw ls
 |[],_,h=>by simp[b7]at h
 |l::ls,x,h=>by
  cases l with
  |al r j v =>
   simp only[b7,BB]at h;rcases h with h|h
   ·split at h
    ·simp at h;subst h;simp[aw]
    ·simp at h
   ·rw[aL];exact BE _ (jf h)
  |_=>(simp only[b7]at h;rw[aL];exact BE _ (jf h))
theorem hY:∀ {ls:List Leaf} {x:Nat×Nat},x∈dx st ls->x.1∈aw ls
 |[],_,h=>by simp[dx]at h
 |l::ls,x,h=>by
  cases l with
  |nal p H ep u E e I =>
   cases u with
   |none =>
    simp only[dx,BB]at h;rcases h with h|h
    ·split at h
     ·obtain⟨k,z,rfl⟩:=BL.1 h;rw[aL,ir];exact BD _ (BF _ (BL.2 ⟨k,z,rfl⟩))
     ·simp at h
    ·rw[aL];exact BE _ (hY h)
   |some y=>(simp only[dx]at h;rw[aL];exact BE _ (hY h))
  |_=>(simp only[dx]at h;rw[aL];exact BE _ (hY h))
theorem is:∀ {ks:List (Nat×Nat)},(∀ x∈ks,st' x.1=st x.1)->aM st' ks=aM st ks
 |[],_=>rfl
 |(r,j)::ks,h=>by
  simp only[aM,is (ks:=ks) (λx u=>h x (BF _ u)),bi (h (r,j) (BG ..))]
theorem kb:∀ {ks:List (Nat×Nat)},(∀ x∈ks,st' x.1=st x.1)->aE st' ks=aE st ks
 |[],_=>rfl
 |(r,j)::ks,h=>by
  simp only[aE,kb (ks:=ks) (λx u=>h x (BF _ u)),bi (h (r,j) (BG ..))]
theorem tA {ls:List Leaf}(h:∀ q∈aw ls,st' q=st q):mvU st' ls=mvU st ls:=by
 unfold mvU;rw[qG h,o9 h,kb (λx u=>h _ (hY u))];simp only;rw[is (λx u=>bi (h _ (jf u)) _)]
theorem qH {ls:List Leaf}(h:∀ q∈aw ls,st' q=st q):hZ st' ls=hZ st ls:=by
 unfold hZ;rw[qG h,o9 h]
theorem jg:∀ (a:Ty) (ls:List Leaf),(∀ q∈aw ls,st' q=st q)->take st' a ls=take st a ls
 |.int k,ls,h=>by simp only[take,gD (.int k) ls h]
 |.bool,ls,h=>by simp only[take,gD .bool ls h]
 |.str,ls,h=>by simp only[take,gD .str ls h]
 |.unit,ls,h=>rfl
 |.hdr,ls,h=>by simp only[take,gD .hdr ls h]
 |.pair a b,ls,h=>by
  simp only[take,jg a ls h];cases H:take st a ls with
  |none=>rfl
  |some x =>
   have z:=ka.take_rest a ls x H;simp only;rw[jg b x.rest (λq u=>h q (fA a.cells ls q (by rw[<- z];exact u)))]
 |.list m E e,ls,h=>by
  cases ls with
  |nil=>rfl
  |cons l ls =>
   have y:∀ q∈aw [l],st' q=st q:=λq u=>h q (by rw[aL];exact BD _ u)
   simp only[take,ci y,je y];congr 1;split
   ·rename_i r j v;rw[ci y]
   ·rfl
   ·rfl
theorem gS {a:Ty}{ls:List Leaf}(h:∀ q∈aw ls,st' q=st q):cg st' a ls=cg st a ls:=by
 unfold cg;rw[jg a ls h]
theorem nU:∀ (a:Ty) (ls:List Leaf) (t:cJ a.den),take st a ls=some t->(∀ z∈t.frz,z.1∈aw ls)/\∀ z∈t.kill,z.1∈aw ls
 |.int k,ls,t,h=>by simp only[take,BI]at h;obtain⟨_,_,rfl⟩:=h;exact⟨by simp,by simp⟩
 |.bool,ls,t,h=>by simp only[take,BI]at h;obtain⟨_,_,rfl⟩:=h;exact⟨by simp,by simp⟩
 |.str,ls,t,h=>by simp only[take,BI]at h;obtain⟨_,_,rfl⟩:=h;exact⟨by simp,by simp⟩
 |.hdr,ls,t,h=>by simp only[take,BI]at h;obtain⟨_,_,rfl⟩:=h;exact⟨by simp,by simp⟩
 |.unit,ls,t,h=>by simp only[take,BA]at h;subst h;exact⟨by simp,by simp⟩
 |.pair a b,ls,t,h=>by
  simp only[take]at h;split at h
  ·rename_i x H;split at h
   ·rename_i y Y;simp only[BA]at h;subst h;have Z:=ka.take_rest a ls x H;obtain⟨O,h2⟩:=nU a ls x H;obtain⟨M,J⟩:=nU b x.rest y Y;rw[Z]at M J;exact⟨λz u=>(BB.1 u).elim (O z) (λu=>fA _ _ _ (M z u)),λz u=>(BB.1 u).elim (h2 z) (λu=>fA _ _ _ (J z u))⟩
   ·cases h
  ·cases h
 |.list m E e,ls,t,h=>by
  cases ls with
  |nil=>simp[take]at h
  |cons l ls =>
   have I:∀ q∈aw [l],q∈aw (l::ls):=λq X=>by rw[aL];exact BD _ X
   cases m with
   |false =>
    simp only[take,cond_false]at h;split at h
    ·simp only[BA]at h;subst h;exact⟨λz u=>I _ (eu u),by simp⟩
    ·cases h
   |true =>
    simp only[take,cond_true]at h;split at h
    ·split at h
     ·simp only[BI]at h;obtain⟨_,_,rfl⟩:=h;exact⟨by simp,λz u=>by simp at u;subst u;exact I _ (by simp[aw])⟩
     ·cases h
    ·simp only[BA]at h;subst h;exact⟨by simp,by simp⟩
    ·cases h
theorem iW {a:Ty}{ls:List Leaf}{t:cJ a.den}(h:cg st a ls=some t):(∀ z∈t.frz,z.1∈aw ls)/\∀ z∈t.kill,z.1∈aw ls:=by
 unfold cg at h;split at h
 ·rename_i p x f k u;simp only[BA]at h;subst h;exact nU a ls _ u
 ·cases h
theorem jW:∀ {off n:Nat} (a:Ty) (pos:Nat) (x:a.den) (ls:List Leaf) (t:cJ a.den),da st off n a pos x ls=some t->∃ k,t.rest=ls.drop k
 |off,n,.pair a b,pos,x,ls,t,h=>by
  simp only[da]at h;split at h
  ·rename_i u y;split at h
   ·rename_i v J;simp only[BA]at h;subst h;obtain⟨z,I⟩:=jW a pos x.1 ls u y;obtain⟨H,M⟩:=jW b (pos+a.cells) x.2 u.rest v J;exact⟨z+H,by show v.rest=_;rw[M,I,Cd]⟩
   ·cases h
  ·cases h
 |off,n,.unit,pos,x,ls,t,h=>by simp only[da,BA]at h;subst h;exact⟨0,rfl⟩
 |off,n,.hdr,pos,x,ls,t,h=>by simp[da]at h
 |off,n,.int k,pos,x,ls,t,h=>sc (a:=.int k) h
 |off,n,.bool,pos,x,ls,t,h=>sc (a:=.bool) h
 |off,n,.str,pos,x,ls,t,h=>sc (a:=.str) h
 |off,n,.list m E e,pos,x,ls,t,h=>sc (a:=.list m E e) h
where
 sc {a:Ty} {b:Bool} {x:a.den} {ls:List Leaf} {t:cJ a.den} (h:(bif b then take st a ls else some ⟨false,x,[],[],ls⟩)=some t):∃ k,t.rest=ls.drop k:=by
  cases b with
  |true=>exact⟨_,ka.take_rest a ls t h⟩
  |false=>simp only[cond_false,BA]at h;subst h;exact⟨0,rfl⟩
theorem pb:∀ {off n:Nat} (a:Ty) (pos:Nat) (x:a.den) (ls:List Leaf),(∀ q∈aw ls,st' q=st q)->da st' off n a pos x ls=da st off n a pos x ls
 |off,n,.pair a b,pos,x,ls,h=>by
  simp only[da,pb a pos x.1 ls h];cases y:da st off n a pos x.1 ls with
  |none=>rfl
  |some u =>
   obtain⟨k,e⟩:=jW a pos x.1 ls u y;simp only;rw[pb b (pos+a.cells) x.2 u.rest (λq z=>h q (fA k ls q (by rw[<- e];exact z)))]
 |off,n,.unit,pos,x,ls,h=>rfl
 |off,n,.hdr,pos,x,ls,h=>rfl
 |off,n,.int k,pos,x,ls,h=>by simp only[da,jg (.int k) ls h]
 |off,n,.bool,pos,x,ls,h=>by simp only[da,jg .bool ls h]
 |off,n,.str,pos,x,ls,h=>by simp only[da,jg .str ls h]
 |off,n,.list m E e,pos,x,ls,h=>by simp only[da,jg (.list m E e) ls h]
theorem pc:∀ {off n:Nat} (a:Ty) (pos:Nat) (x:a.den) (ls:List Leaf) (t:cJ a.den),da st off n a pos x ls=some t->(∀ z∈t.frz,z.1∈aw ls)/\∀ z∈t.kill,z.1∈aw ls
 |off,n,.pair a b,pos,x,ls,t,h=>by
  simp only[da]at h;split at h
  ·rename_i u H;split at h
   ·rename_i v O;simp only[BA]at h;subst h;obtain⟨k,e⟩:=jW a pos x.1 ls u H;obtain⟨M,X⟩:=pc a pos x.1 ls u H;obtain⟨J,I⟩:=pc b (pos+a.cells) x.2 u.rest v O;rw[e]at J I;exact⟨λz y=>(BB.1 y).elim (M z) (λy=>fA _ _ _ (J z y)),λz y=>(BB.1 y).elim (X z) (λy=>fA _ _ _ (I z y))⟩
   ·cases h
  ·cases h
 |off,n,.unit,pos,x,ls,t,h=>by simp only[da,BA]at h;subst h;exact⟨by simp,by simp⟩
 |off,n,.hdr,pos,x,ls,t,h=>by simp[da]at h
 |off,n,.int k,pos,x,ls,t,h=>sc (a:=.int k) h
 |off,n,.bool,pos,x,ls,t,h=>sc (a:=.bool) h
 |off,n,.str,pos,x,ls,t,h=>sc (a:=.str) h
 |off,n,.list m E e,pos,x,ls,t,h=>sc (a:=.list m E e) h
where
 sc {a:Ty} {b:Bool} {x:a.den} {ls:List Leaf} {t:cJ a.den} (h:(bif b then take st a ls else some ⟨false,x,[],[],ls⟩)=some t):(∀ z∈t.frz,z.1∈aw ls)/\∀ z∈t.kill,z.1∈aw ls:=by
  cases b with
  |true=>exact nU a ls t h
  |false=>simp only[cond_false,BA]at h;subst h;exact⟨by simp,by simp⟩
theorem u3 {U:Upd}{d:Nat}{sh:aI}{ls:List Leaf}(h:st' d=st d):cj st' U d sh ls=cj st U d sh ls:=by
 simp only[cj,bi h]
theorem rv:∀ {xs:List Operand} {t:Nat},Operand.tmp t∈xs->t∈iw xs
 |[],_,h=>by simp at h
 |x::xs,t,h=>by
  rcases BO.1 h with rfl|h
  ·simp[iw]
  ·have u:=rv h;cases x <;> simp[iw,u]
theorem nk (t n:Nat):∀ (j:Nat) (ls:List Leaf) (q:Nat),q∈aw (bE t n j ls)->q=t\/q∈aw ls
 |_,[],_,h=>by simp[bE,aw]at h
 |j,l::ls,q,h=>by
  simp only[bE]at h;rw[aL,BB]at h;rw[aL,BB];rcases h with h|h
  ·cases l with
   |own p y E e u=>simp[lE,aw]at h;exact .inl h
   |_=>exact .inr (.inl h)
  ·exact (nk t n (j+1) ls q h).imp id .inr
theorem k9:∀ (u y:List Leaf),ay (u++y)=ay u++ay y
 |[],_=>rfl
 |l::u,y=>by cases l <;> simp[ay,k9 u y]
theorem dv (l:Leaf)(ls:List Leaf):ay (l::ls)=ay [l]++ay ls:=k9 [l] ls
theorem fC:∀ {ls:List Leaf} {q:Nat},q∈aw ls->q∈ay ls
 |[],_,h=>by simp[aw]at h
 |l::ls,q,h=>by
  rw[aL,BB]at h;rw[dv,BB];rcases h with h|h
  ·left;cases l with
   |nal p u ep y E e z=>simp[aw]at h;simpa[ay]using h
   |np p u ep a x off=>simp[aw]at h;simpa[ay]using h
   |_=>simp[aw]at h <;> simp[ay,h]
  ·exact .inr (fC h)
theorem nl (t n:Nat):∀ (j:Nat) (ls:List Leaf) (q:Nat),q∈ay (bE t n j ls)->q=t\/q∈ay ls
 |_,[],_,h=>by simp[bE,ay]at h
 |j,l::ls,q,h=>by
  simp only[bE]at h;rw[dv,BB]at h;rw[dv,BB];rcases h with h|h
  ·cases l with
   |own p y E e u=>simp[lE,ay]at h;exact .inl h
   |_=>exact .inr (.inl h)
  ·exact (nl t n (j+1) ls q h).imp id .inr
theorem rx {x:Operand}{q:Nat}(h:q∈aw (au st x).2):∃ t,x=.tmp t/\(q=t\/q∈aw (st t).ls):=by
 cases x with
 |tmp t =>
  simp only[au]at h;cases y:CZ t GH with
  |false=>simp[y,aw]at h
  |true=>simp only[y,cond_true]at h;exact⟨t,rfl,nk _ _ _ _ _ h⟩
 |const v =>
  simp only[au]at h;split at h
  ·rename_i l u;unfold it at u;split at u <;> simp at u <;> subst u <;> simp[aw]at h
  ·simp[aw]at h
 |func f=>simp[au,aw]at h
 |global g=>simp[au,aw]at h
theorem rz {x:Operand}{q:Nat}(h:q∈ay (au st x).2):∃ t,x=.tmp t/\(q=t\/q∈ay (st t).ls):=by
 cases x with
 |tmp t =>
  simp only[au]at h;cases y:CZ t GH with
  |false=>simp[y,ay]at h
  |true=>simp only[y,cond_true]at h;exact⟨t,rfl,nl _ _ _ _ _ h⟩
 |const v =>
  simp only[au]at h;split at h
  ·rename_i l u;unfold it at u;split at u <;> simp at u <;> subst u <;> simp[ay]at h
  ·simp[ay]at h
 |func f=>simp[au,ay]at h
 |global g=>simp[au,ay]at h
theorem qI {x:Operand}{l:Leaf}(h:one st x=l)(y:l≠.dead):(au st x).2=[l]:=by
 unfold one at h;split at h
 ·rename_i z u;rw[u,h]
 ·exact absurd h.symm y
theorem jh {x:Operand}{q:Nat}(h:q∈aw [one st x]):q∈aw (au st x).2:=by
 by_cases u:one st x=.dead
 ·rw[u]at h;simp[aw]at h
 ·rw[qI rfl u];exact h
theorem tB {x:Operand}{q:Nat}(h:q∈ay [one st x]):q∈ay (au st x).2:=by
 by_cases u:one st x=.dead
 ·rw[u]at h;simp[ay]at h
 ·rw[qI rfl u];exact h
def jp:Leaf->Bool×Leaf
 |.own _ _ _ e u=>(true,.ep 0 0 0 e.cells u.length 0)
 |l=>(false,l)
def bI (c:bS):Nat×aI×List (Bool×Leaf):=(c.ver,c.sh,c.ls.map jp)
theorem tC {l l':Leaf}(h:jp l'=jp l):l'=l\/∃ (p p':Bool) (z y:Option (Nat×Nat)) (E E':TypeId) (e e':Ty) (xs:List e.den) (u:List e'.den),l=.own p z E e xs/\l'=.own p' y E' e' u/\e'.cells=e.cells/\u.length=xs.length:=by
 cases l <;> cases l' <;> simp only[jp,BS,CO,reduceCtorEq,false_and,and_false,true_and,Leaf.ep.injEq,Bool.true_eq_false]at h <;>
  first
  |exact .inr ⟨_,_,_,_,_,_,_,_,_,_,rfl,rfl,h.1,h.2.1⟩
  |exact .inr ⟨_,_,_,_,_,_,_,_,_,_,rfl,rfl,h.1,h.2⟩
  |exact .inl rfl
  |exact .inl (by rw[h])
  |exact .inl h
  |(obtain⟨rfl,rfl,rfl,rfl,rfl,rfl⟩:=h;exact .inl rfl)
theorem qa (t n:Nat):∀ (j:Nat) (ls u:List Leaf),u.map jp=ls.map jp->bE t n j u=bE t n j ls
 |_,[],[],_=>rfl
 |_,[],_::_,h=>by simp at h
 |_,_::_,[],h=>by simp at h
 |j,l::ls,Y::u,h=>by
  simp only[BY,Ca]at h;simp only[bE,qa t n (j+1) ls u h.2];rcases tC h.1 with e|⟨p,J,X,z,E,Z,e,M,O,y,H,I,_,_⟩
  ·rw[e]
  ·rw[H,I];rfl
theorem xP {x:Operand}(h:∀ t,x=.tmp t->bI (st' t)=bI (st t)):au st' x=au st x:=by
 cases x with
 |tmp t =>
  have:=h t rfl;simp only[bI,BS]at this;simp only[au,this.1,this.2.1,qa _ _ _ _ _ this.2.2]
 |_=>rfl
theorem zw {x:Operand}(h:∀ t,x=.tmp t->bI (st' t)=bI (st t)):one st' x=one st x:=by
 unfold one;rw[xP h]
theorem xQ {c u:bS}(h:bI u=bI c)(j:Nat):jp (u.ls.getD j .dead)=jp (c.ls.getD j .dead):=by
 simp only[bI,BS]at h;have:=congrArg (λl=>l[j]?) h.2.2;simp only[Cq]at this;rw[BP,BP];generalize u.ls[j]?=a at this;generalize c.ls[j]?=b at this
 match a,b,this with
 |none,none,_=>rfl
 |some x,some y,h=>exact Cy h
theorem rA (l:Leaf):lk l=(jp l).1:=by cases l <;> rfl
theorem zb {ks:List (Nat×Nat×Nat)}{ep:Nat}(h:∀ q∈EPO::ks.map (·.1),bI (st' q)=bI (st q)):bm st' ks ep=bm st ks ep:=by
 unfold bm;have z:=h EPO (BG ..);simp only[bI,BS]at z;rw[z.1];congr 1;induction ks with
 |nil=>rfl
 |cons k ks I =>
  have y:=h k.1 (by simp);have H:(st' k.1).ver=(st k.1).ver:=by simp only[bI,BS]at y;exact y.1
  rw[CV,CV,I (λq u=>h q (by simp at u ⊢;rcases u with u|u;exact .inl u;exact .inr (.inr u))),rA,rA,xQ y,H]
end
section
variable {P:Program} {V:Env} {Γ:List Ctr} {T:TypeId->TI} {st st':St} {o:Oper} {R:Type} {κ:Upd->Option R} {r:R}
theorem tD {d:Nat}(u:o.dst=some d)(h:∀ q∈fh st o,st' q=st q):st' d=st d/\st' (B0+d)=st (B0+d):=by
 refine⟨h d ?_,h (B0+d) ?_⟩ <;> simp[fh,zj,u]
theorem la {ls:List Leaf}(h:∀ q∈aw ls,st' q=st q):∀ x∈bw st ls,st' x.1=st x.1:=λx u=>h _ (eu u)
theorem qb {u:List (Nat×Nat×Bool)}:∀ (ps:List (Nat×Operand)) (ls:List Leaf),(∀ x∈ps,∀ t,x.2=.tmp t->st' t=st t)->fg st' u ps ls=fg st u ps ls
 |[],_,_=>rfl
 |(i,x)::ps,ls,h=>by
  simp only[fg,dR (h (i,x) (BG ..))];split
  ·rw[qb ps _ (λy z=>h y (BF _ z))]
  ·rfl
theorem oy {e:Ty}:∀ (ps:List (Nat×Operand)) (k:Nat),(∀ x∈ps,(∀ t,x.2=.tmp t->st' t=st t)/\∀ q∈aw (au st x.2).2,st' q=st q)->ew st' e k ps=ew st e k ps
 |[],_,_=>rfl
 |(i,x)::ps,k,h=>by
  have u:=h (i,x) (BG ..);simp only[ew,dR u.1,gS u.2,oy ps (k+1) (λy z=>h y (BF _ z))]
theorem oz {e:Ty}:∀ (ps:List (Nat×Operand)) (k:Nat) (u:cJ (List e.den)),ew st e k ps=some u->∀ z,z∈u.frz\/z∈u.kill->∃ x∈ps,z.1∈aw (au st x.2).2
 |[],_,_,h=>by simp only[ew,BA]at h;subst h;simp
 |(i,x)::ps,k,u,h=>by
  simp only[ew]at h;cases O:BJ i k&&decide ((au st x).1=bf e.isAgg) with
  |false=>simp[O]at h
  |true =>
   simp only[O,cond_true]at h;split at h
   ·rename_i t1 J hg M;simp only[BA]at h;subst h;intro z H;obtain⟨Z,X⟩:=iW hg;have I:(z∈t1.frz\/z∈t1.kill)\/(z∈J.frz\/z∈J.kill):=by
     rcases H with H|H <;> rcases BB.1 H with H|H
     ·exact .inl (.inl H)
     ·exact .inr (.inl H)
     ·exact .inl (.inr H)
     ·exact .inr (.inr H)
    rcases I with H|H
    ·exact⟨(i,x),BG ..,H.elim (Z z) (X z)⟩
    ·obtain⟨y,Y,h2⟩:=oz ps (k+1) J M z H;exact⟨y,BF _ Y,h2⟩
   ·cases h
theorem nm {x:Option Operand}{n:Int}(h:∀ y,x=some y->∀ t,y=.tmp t->st' t=st t):di st' x n=di st x n:=by
 cases x with
 |none=>rfl
 |some y=>simp only[di,dD (h y rfl)]
theorem u5:∀ (xs:List Operand) (u:Option (List Nat)),(∀ x∈xs,∀ t,x=.tmp t->st' t=st t) ->
  xs.foldl (λ (u:Option (List Nat)) x=>u.bind λl=>match one st' x with|.bp b 0=>some (l++[b])|_=>none) u =
  xs.foldl (λ (u:Option (List Nat)) x=>u.bind λl=>match one st x with|.bp b 0=>some (l++[b])|_=>none) u
 |[],_,_=>rfl
 |x::xs,u,h=>by
  simp only[Cz,dD (h x (BG ..))];exact u5 xs _ (λy z=>h y (BF _ z))
theorem qc {l:Leaf}(y:st' TMP=st TMP)(z:st' EPO=st EPO)(h:∀ q∈aw [l],st' q=st q):ck st' l=ck st l:=by
 cases l with
 |nal p H ep u E e M =>
  rw[ir]at h;simp only[ck,jA h,y,z];congr 1
  match H,u,h with
  |[(r,j,n)],some (i,J,off),h =>
   have I:=h r (by simp);simp only[I]
  |[(r,j,n)],none,_=>rfl
  |[],_,_=>rfl
  |_::_::_,_,_=>rfl
 |_=>rfl
theorem oA {l l':Leaf}{U:Upd}(h:ck st l=some (U,l')):∃ n,l'=.al TMP 0 n/\∀ q,q≠TMP->∀ z∈ay (ac U st q).ls,z∈ay (st q).ls:=by
 cases l with
 |nal p ks ep a0 E e Y =>
  simp only[ck]at h;cases H:bm st ks ep with
  |false=>simp[H]at h
  |true =>
   rw[H]at h;simp only[cond_true]at h;split at h
   ·rename_i r j n0 i sz off;split at h
    ·rename_i X E' M J hg;cases hb:!BJ r TMP&&!BJ r EPO&&BJ sz M.cells with
     |false=>simp[hb]at h
     |true =>
      rw[hb]at h;simp only[cond_true]at h;split at h
      ·split at h
       ·rename_i y _ _ _ _ _;simp only[BA,BS]at h;obtain⟨rfl,rfl⟩:=h;refine⟨_,rfl,λq hq z u=>?_⟩;rw[aO]at u;rcases am r q ⟨(st r).ver,(st r).sh,aS (st r).ls j (.own X (some (i,off)) E' M J)⟩ (ac [(TMP,⟨(st TMP).ver+1,.one,[.own (X&&M.shy) none _ _ _]⟩),(EPO,bU (st EPO))] st) with ⟨rfl,O⟩|⟨_,O⟩
        ·rw[O]at u;exact refs_set u
        ·rw[O,aO,aJ hq]at u;rcases am EPO q (bU (st EPO)) st with ⟨rfl,Z⟩|⟨_,Z⟩ <;> rw[Z]at u <;> exact u
       ·cases h
      ·cases h
    ·cases h
   ·cases h
 |_=>simp[ck]at h
where
 refs_set {I:List Leaf} {j z:Nat} {p:Bool} {hh:Option (Nat×Nat)} {E:TypeId} {e:Ty} {Y:List e.den} (h:z∈ay (aS I j (.own p hh E e Y))):z∈ay I:=by
  unfold aS at h;induction I generalizing j with
  |nil=>simpa using h
  |cons l I ih =>
   cases j with
   |zero =>
    rw[List.set_cons_zero,dv,BB]at h;rw[dv,BB];rcases h with h|h
    ·simp[ay]at h
    ·exact .inr h
   |succ j =>
    rw[Cn,dv,BB]at h;rw[dv,BB];exact h.imp id ih
theorem uv {l l':Leaf}{U:Upd}(h:ck st l=some (U,l')):ay (ac U st TMP).ls=[]:=by
 cases l with
 |nal p O ep I E e Z =>
  simp only[ck]at h;cases u:bm st O ep with
  |false=>simp[u]at h
  |true =>
   rw[u]at h;simp only[cond_true]at h;split at h
   ·rename_i r j X i J off;split at h
    ·rename_i Y E' M H hg;cases z:!BJ r TMP&&!BJ r EPO&&BJ J M.cells with
     |false=>simp[z]at h
     |true =>
      rw[z]at h;simp only[cond_true]at h;have y:TMP≠r:=λe=>by subst e;simp at z
      split at h
      ·split at h
       ·simp only[BA,BS]at h;obtain⟨rfl,rfl⟩:=h;rw[aO,aJ y,aO,bh];rfl
       ·cases h
      ·cases h
    ·cases h
   ·cases h
 |_=>simp[ck]at h
theorem wj {E:TypeId}{e:Ty}{y:Leaf}(u:∀ q∈aw [y],st' q=st q):fK st' E e y=fK st E e y:=by
 unfold fK;rw[ci u,je u,gS u]
theorem wk {E:TypeId}{e:Ty}{y:Leaf}{t:cJ (List e.den)}(h:fK st E e y=some t):(∀ z∈t.frz,z.1∈aw [y])/\∀ z∈t.kill,z.1∈aw [y]:=by
 unfold fK at h;cases u:e.flat with
 |true =>
  rw[u]at h;simp only[cond_true,BI]at h;obtain⟨_,_,rfl⟩:=h;exact⟨by simp,by simp⟩
 |false =>
  rw[u]at h;simp only[cond_false]at h;cases H:decide (e.sh=e) with
  |true =>
   rw[H]at h;simp only[cond_true,BI]at h;obtain⟨_,_,rfl⟩:=h;exact⟨λz I=>eu I,by simp⟩
  |false =>
   rw[H]at h;simp only[cond_false,BI]at h;obtain⟨M,J,rfl⟩:=h;exact iW J
theorem lf {u:Upd}{d:Nat}{E:TypeId}{e:Ty}{H:Nat}{p:Bool}{xs:List e.den}{ks:List (Nat×Nat)}{y:Leaf}(O:∀ z∈ks,st' z.1=st z.1)(J:∀ q∈aw [y],st' q=st q)(hd:st' d=st d) :
  dS st' (ac u st') u d E e H p xs ks y κ=dS st (ac u st) u d E e H p xs ks y κ:=by
 unfold dS;have M:∀ q,st' q=st q->ac u st' q=ac u st q:=λq h=>bi h u
 rw[wj (st:=ac u st) (st':=ac u st') (λq Z=>M q (J q Z))];split
 ·rename_i t Y;obtain⟨p1,X⟩:=wk Y;have e1:aE (ac u st') t.frz=aE (ac u st) t.frz:=kb (λz I=>M _ (J _ (p1 z I)));have e2:∀ U:Upd,aM (ac U (ac u st')) (t.kill++ks)=aM (ac U (ac u st)) (t.kill++ks):=λU=>is (λz I=>bi (M _ ((BB.1 I).elim (λI=>J _ (X z I)) (O z))) U)
  simp only[e1,e2,u3 hd]
 ·rfl
theorem wm {H:Upd}{d:Nat}{E:TypeId}{e:Ty}{u:Nat}{x y:Leaf}(O:∀ q∈aw [x],st' q=st q)(J:∀ q∈aw [y],st' q=st q)(M:st' d=st d):eo st' H d E e u x y κ=eo st H d E e u x y κ:=by
 unfold eo;cases x with
 |al r j v =>
  have X:st' r=st r:=O r (by simp[aw]);simp only;rw[ci (st:=ac H st) (st':=ac H st') (l:=.al r j v) (λq Y=>bi (O q Y) H)];split
  ·rw[lf (λz I=>by simp at I;subst I;exact X) J M]
  ·rfl
 |nil=>exact lf (by simp) J M
 |_=>rfl
theorem wn {d:Nat}{E:TypeId}{e:Ty}{H:Nat}{x y:Leaf}(I:st' TMP=st TMP)(J:∀ q∈aw [x],st' q=st q)(X:∀ q∈aw [y],st' q=st q)(O:st' d=st d):iv st' d E e H x y κ=iv st d E e H x y κ:=by
 unfold iv;rw[wm J X O,hH,hH];cases hn:jk x with
 |false=>rfl
 |true =>
  simp only[cond_true];have hE:st' EPO=st EPO:=by
   cases x with
   |nal p ks ep a0 E e xs=>exact J EPO (by rw[ir];exact BG ..)
   |_=>simp[jk]at hn
  rw[qc I hE J];cases Z:ck st x with
  |none=>rfl
  |some u =>
   obtain⟨n,e1,_⟩:=oA (U:=u.1) (l':=u.2) Z;simp only[B9];rw[e1];unfold eo;simp only;have e2:∀ q,q=TMP->ac u.1 st' q=ac u.1 st q:=λq M=>by rw[M];exact bi I u.1
   rw[ci (st:=ac u.1 st) (st':=ac u.1 st') (l:=.al TMP 0 n) (λq M=>e2 q (by simpa[aw]using M))];split
   ·rw[lf (λz Y=>by simp at Y;subst Y;exact I) X O]
   ·rfl
structure eK (st st':St) (ls:List Leaf):Prop where
 d1:∀ q∈ay ls,st' q=st q
 d2:∀ r∈ay ls,∀ q∈ay (st r).ls,st' q=st q
 d3:∀ r∈ay ls,∀ r2∈ay (st r).ls,∀ q∈ay (st r2).ls,st' q=st q
theorem kq (p:Bool):∀ (a:Ty) (x:a.den),ay (cI p a x)=[]
 |.int _,_=>rfl
 |.bool,_=>rfl
 |.str,_=>rfl
 |.unit,_=>rfl
 |.hdr,_=>rfl
 |.pair a b,x=>by simp[cI,k9,kq p a,kq p b]
 |.list _ _ _,_=>rfl
theorem rB {l:Leaf}(h:∀ q∈ay [l],st' q=st q):target st' l=target st l:=by
 unfold target;cases l with
 |bp b off =>
  have u:=h b (by simp[ay]);cases off with
  |zero=>simp only[u]
  |succ n=>rfl
 |rp p a x off=>cases off <;> rfl
 |_=>rfl
theorem lg {l:Leaf}{ls:List Leaf}(h:target st l=some ls):∀ q∈ay ls,q∈ay [l]\/∃ r∈ay [l],q∈ay (st r).ls:=by
 unfold target at h;split at h
 ·rename_i b;cases y:decide ((st b).sh=.agg) with
  |false=>simp[y]at h
  |true =>
   simp only[y,cond_true,BA]at h;subst h;intro q u;rcases nl _ _ _ _ _ u with rfl|u
   ·exact .inl (by simp[ay])
   ·exact .inr ⟨b,by simp[ay],u⟩
 ·simp only[BA]at h;subst h;intro q u;rw[kq]at u;simp at u
 ·simp only[BA]at h;subst h;intro q u;simp[ay]at u
 ·cases h
theorem iX {x:aI×List Leaf}{q:Nat}(h:q∈ay [cl x]):q∈ay x.2:=by
 unfold cl at h;split at h
 ·exact h
 ·simp[ay]at h
theorem eK.target {l:Leaf}{ls:List Leaf}(h:eK st st' [l])(H:Go.Proofs.YtadlacffdemoiaaGreatEv.target st l=some ls):(∀ q∈ay ls,st' q=st q)/\∀ r∈ay ls,∀ q∈ay (st r).ls,st' q=st q:=by
 constructor
 ·intro q y;rcases lg H q y with u|⟨r,u,z⟩
  ·exact h.d1 q u
  ·exact h.d2 r u q z
 ·intro r I q y;rcases lg H r I with u|⟨J,u,z⟩
  ·exact h.d2 r u q y
  ·exact h.d3 J u r z q y
theorem eK.one {x:aI×List Leaf}(h:eK st st' x.2):eK st st' [cl x] :=
 ⟨λq y=>h.d1 q (iX y),λr u=>h.d2 r (iX u),λr u=>h.d3 r (iX u)⟩
def nn {α:Type}(st st':St)(g:Got α):Prop:=(∀ z∈g.frz,st' z.1=st z.1)/\(∀ z∈g.kill,st' z.1=st z.1)
theorem nq {c:Bool×Ty}{l:Leaf}(X:eK st st' [l]):ff st' c l=ff st c l/\∀ g,ff st c l=some g->nn st st' g:=by
 unfold ff;rw[rB X.d1];cases H:target st l with
 |none=>cases c.1 <;> exact⟨rfl,by simp⟩
 |some Y =>
  have y:=X.target H;cases hc:c.1 with
  |false =>
   have u:∀ q∈aw Y,st' q=st q:=λq M=>y.1 q (fC M)
   simp only[cond_false,eC u,je u,true_and];intro g z;simp only[BI]at z;obtain⟨_,_,rfl⟩:=z;exact⟨la u,by simp[Got.ofRd]⟩
  |true =>
   simp only[cond_true]
   match Y,y,H with
   |[],_,_=>exact⟨rfl,by simp⟩
   |_::_::_,_,_=>exact⟨rfl,by simp⟩
   |[l'],y,H =>
    simp only[rB y.1];cases I:target st l' with
    |none=>exact⟨rfl,by simp⟩
    |some J =>
     have u:∀ q∈aw J,st' q=st q:=by
      intro q M;rcases lg I q (fC M) with O|⟨r,O,Z⟩
      ·exact y.1 q O
      ·exact y.2 r O q Z
     simp only[eC u,je u,true_and];intro g z;simp only[BI]at z;obtain⟨_,_,rfl⟩:=z;exact⟨la u,by simp[Got.ofRd]⟩
theorem mn:∀ (cs:List (Bool×Ty)) (ls:List Leaf),(∀ l∈ls,eK st st' [l])->cz st' cs ls=cz st cs ls/\∀ g,cz st cs ls=some g->nn st st' g
 |[],[],_=>⟨rfl,λg u=>by simp only[cz,BA]at u;subst u;exact⟨by simp,by simp⟩⟩
 |[],_::_,_=>⟨rfl,λg u=>by simp[cz]at u⟩
 |_::_,[],_=>⟨rfl,λg u=>by simp[cz]at u⟩
 |c::cs,l::ls,h=>by
  obtain⟨O,h2⟩:=nq (c:=c) (h l (BG ..));obtain⟨Z,Y⟩:=mn cs ls (λy X=>h y (BF _ X));simp only[cz,O,Z,true_and];intro g u;split at u
  ·rename_i J H;split at u
   ·rename_i M I;simp only[BA]at u;subst u;exact⟨λz hz=>(BB.1 hz).elim ((h2 J H).1 z) ((Y M I).1 z),by simp⟩
   ·cases u
  ·cases u
theorem oC {c:Nat}{q:Nat}:∀ {ls:List Leaf} {c:Nat},q∈aw (aS ls c .nil)->q∈aw ls
 |[],_,h=>h
 |l::ls,0,h=>by
  rw[show aS (l::ls) 0 .nil=.nil::ls from rfl,aL,BB]at h;rw[aL,BB];rcases h with h|h
  ·simp[aw]at h
  ·exact .inr h
 |l::ls,c+1,h=>by
  rw[show aS (l::ls) (c+1) .nil=l::aS ls c .nil from rfl,aL,BB]at h;rw[aL,BB];exact h.imp id (oC (c:=c))
theorem pd {caps:List Nat}{f:FuncId}(H:eK st st' [.clo f caps]):∀ l∈caps.map (λb=>Leaf.bp b 0),eK st st' [l]:=by
 intro l J;obtain⟨b,M,rfl⟩:=BL.1 J;have u:b∈ay [Leaf.clo f caps]:=by simp[ay,M]
 have y:∀ r∈ay [Leaf.bp b 0],r=b:=λr z=>by simpa[ay]using z
 exact⟨λq I=>H.d1 q (by rw[y q I];exact u),λr z=>H.d2 r (by rw[y r z];exact u),λr z=>H.d3 r (by rw[y r z];exact u)⟩
theorem nr {caps:List (Bool×Bool×(a:Ty)×a.den)}:∀ l∈caps.map eL,eK st st' [l]:=by
 intro l z;obtain⟨c,H,rfl⟩:=BL.1 z;have:∀ q,q∉ay [eL c]:=by
  intro q u;unfold eL at u;cases y:c.2.1 <;> rw[y]at u <;> simp[ay]at u
 exact⟨λq u=>absurd u (this q),λq u=>absurd u (this q),λq u=>absurd u (this q)⟩
theorem el {pk:PK}{x:aI×List Leaf}(h:eK st st' x.2):be st' pk x=be st pk x/\∀ g,be st pk x=some g->nn st st' g:=by
 have Y:∀ q∈aw x.2,st' q=st q:=λq M=>h.d1 q (fC M)
 have h1:=h.one;have H:∀ {b:Bool} {a:Ty} {g:Got a.den},(bif b then (cg st a x.2).map (λt=>(⟨t.p,t.val,t.frz,t.kill,[],[]⟩:Got a.den)) else none)=some g->nn st st' g:=by
  intro b a g u;cases b with
  |false=>simp at u
  |true =>
   simp only[cond_true,BI]at u;obtain⟨t,ht,rfl⟩:=u;obtain⟨p1,p2⟩:=iW ht;exact⟨λz J=>Y _ (p1 z J),λz J=>Y _ (p2 z J)⟩
 cases pk with
 |rd a =>
  simp only[be,eC Y,je Y,true_and];intro g u;cases O:decide (x.1=bf a.isAgg) with
  |false=>simp[O]at u
  |true =>
   simp only[O,cond_true,BI]at u;obtain⟨y,_,rfl⟩:=u;exact⟨la Y,by simp[Got.ofRd]⟩
 |own a =>
  simp only[be,gS Y,true_and];exact λg u=>H u
 |io a =>
  simp only[be,gS Y,true_and];exact λg u=>H u
 |rref a=>exact nq (c:=(false,a)) h1
 |rref2 a=>exact nq (c:=(true,a)) h1
 |iop a =>
  simp only[be];split
  ·rename_i b Z;rw[Z]at h1;have O:=h1.d1 b (by simp[ay]);have h3:∀ q∈aw (bE b (st b).ver 0 (st b).ls),st' q=st q:=by
    intro q M;rcases nk _ _ _ _ _ M with rfl|M
    ·exact O
    ·exact h1.d2 b (by simp[ay]) q (fC M)
   simp only[O,gS h3,true_and];intro g u;cases a1:decide ((st b).sh=.agg) with
   |false=>simp[a1]at u
   |true =>
    simp only[a1,cond_true,BI]at u;obtain⟨t,ht,rfl⟩:=u;obtain⟨p1,p2⟩:=iW ht;exact⟨λz J=>h3 _ (p1 z J),λz J=>h3 _ (p2 z J)⟩
  ·exact⟨rfl,by simp⟩
 |fn As B =>
  simp only[be,true_and];intro g u;split at u
  ·split at u
   ·simp only[BA]at u;subst u;exact⟨by simp,by simp⟩
   ·cases u
  ·cases u
 |clo f cs =>
  simp only[be];split
  ·rename_i f' caps Z;rw[Z]at h1;have:=mn cs _ (pd h1);rw[this.1];refine⟨rfl,λg u=>?_⟩;cases O:BJ f' f with
   |false=>simp[O]at u
   |true=>rw[O]at u;exact this.2 g u
  ·rename_i f' caps Z;have:=mn (st:=st) (st':=st') cs _ (nr (caps:=caps));rw[this.1];refine⟨rfl,λg u=>?_⟩;cases O:BJ f' f with
   |false=>simp[O]at u
   |true=>rw[O]at u;exact this.2 g u
  ·exact⟨rfl,by simp⟩
 |hol a c off =>
  simp only[be];have X:∀ q∈aw (aS x.2 c .nil),st' q=st q:=λq M=>Y q (oC (c:=c) M)
  rw[gS X];cases O:decide (x.1=bf a.isAgg) with
  |false=>exact⟨rfl,by simp⟩
  |true =>
   simp only[cond_true];split
   ·rename_i r j v I;have a2:x.2[c]?=some (.al r j v):=by
     rw[BP]at I;cases M:x.2[c]? with
     |none=>rw[M]at I;simp at I
     |some l0=>rw[M]at I;simp at I;rw[I]
    have hr:=λq M=>Y q (qF a2 q M)
    rw[ci hr];refine⟨rfl,λg u=>?_⟩;split at u
    ·rename_i p i o' E e xs _;cases a0:BJ o' off with
     |false=>simp[a0]at u
     |true =>
      rw[a0]at u;simp only[cond_true]at u;split at u
      ·rename_i t ht;split at u
       ·simp only[BA]at u;subst u;obtain⟨p1,p2⟩:=iW ht;refine⟨λz J=>X _ (p1 z J),λz J=>?_⟩;rcases BO.1 J with rfl|J
        ·exact hr r (by simp[aw])
        ·exact X _ (p2 z J)
       ·cases u
      ·cases u
    ·cases u
   ·exact⟨rfl,by simp⟩
theorem kr {ga ga':(pk:PK)->aI×List Leaf->Option (Got pk.den)}:∀ (ps:List PK) (xs:List (aI×List Leaf)),
  (∀ x∈xs,∀ pk,ga' pk x=ga pk x/\∀ g,ga pk x=some g->nn st st' g) ->
  a7 ga' ps xs=a7 ga ps xs/\∀ g,a7 ga ps xs=some g->nn st st' g
 |[],[],_=>⟨rfl,λg u=>by simp only[a7,BA]at u;subst u;exact⟨by simp,by simp⟩⟩
 |[],_::_,_=>⟨rfl,λg u=>by simp[a7]at u⟩
 |_::_,[],_=>⟨rfl,λg u=>by simp[a7]at u⟩
 |p::ps,x::xs,h=>by
  obtain⟨Z,Y⟩:=h x (BG ..) p;obtain⟨h3,X⟩:=kr ps xs (λy hy=>h y (BF _ hy));simp only[a7,Z,h3,true_and];intro g u;split at u
  ·rename_i M H;split at u
   ·rename_i O I;simp only[BA]at u;subst u;exact⟨λz J=>(BB.1 J).elim ((Y M H).1 z) ((X O I).1 z),λz J=>(BB.1 J).elim ((Y M H).2 z) ((X O I).2 z)⟩
   ·cases u
  ·cases u
theorem tE {H:List Ty}{B:Ty}{f:FuncId}{ls:List Leaf}(h:∀ l∈ls,eK st st' [l]):kt Γ st' H B f ls=kt Γ st H B f ls/\∀ g,kt Γ st H B f ls=some g->nn st st' g:=by
 have u:=λ (q:List PK)=>kr (st:=st) (st':=st') (ga:=be st) (ga':=be st') q (ls.map λl=>(aI.one,[l])) (λy O X=>by
  obtain⟨l,M,rfl⟩:=BL.1 O;exact el (h l M))
 unfold kt;split
 ·rename_i c Y;unfold rS;simp only[uy,(u _).1,true_and];intro g z;split at z
  ·cases J:(c.ps.drop H.length).all PK.reads&&B.flat&&c.fresh with
   |false=>simp[J]at z
   |true =>
    simp only[J,cond_true]at z;split at z
    ·rename_i g0 I;simp only[BA]at z;subst z;exact⟨((u _).2 g0 I).1,by simp⟩
    ·cases z
  ·cases z
 ·exact⟨rfl,by simp⟩
theorem wo {pk:PK}{x:aI×List Leaf}(h:eK st st' x.2):ca Γ st' pk x=ca Γ st pk x/\∀ g,ca Γ st pk x=some g->nn st st' g:=by
 cases pk with
 |fn O B =>
  simp only[ca];split
  ·rename_i H y;have z:(∃ u,cl x=.clo H.1 u/\H.2=u.map λb=>Leaf.bp b 0)\/∃ u,cl x=.clr H.1 u/\H.2=u.map eL:=by
    generalize cl x=l at y;cases l <;> simp only[vh,BA,reduceCtorEq]at y
    ·subst y;exact .inl ⟨_,rfl,rfl⟩
    ·subst y;exact .inr ⟨_,rfl,rfl⟩
   have J:=h.one;rcases z with ⟨u,z,I⟩|⟨u,z,I⟩
   ·rw[z]at J;rw[I];exact tE (pd J)
   ·rw[I];exact tE nr
  ·exact el h
 |rd a=>exact el (pk:=.rd a) h
 |own a=>exact el (pk:=.own a) h
 |io a=>exact el (pk:=.io a) h
 |rref a=>exact el (pk:=.rref a) h
 |rref2 a=>exact el (pk:=.rref2 a) h
 |iop a=>exact el (pk:=.iop a) h
 |clo f M=>exact el (pk:=.clo f M) h
 |hol a c off=>exact el (pk:=.hol a c off) h
theorem tF:∀ (u ls:List Leaf),st' EPO=st EPO->(∀ q∈ay u,st' q=st q)->b8 st' u ls=b8 st u ls
 |[],_,_,_=>by simp[b8]
 |x::u,[],_,_=>by cases x <;> simp[b8]
 |x::u,l::ls,z,h=>by
  have y:=tF u ls z (λq I=>h q (by rw[dv];exact BE _ I));cases x with
  |al r j v =>
   have H:st' r=st r:=h r (by simp[ay]);simp only[b8,y,bi H,bi z]
  |_=>simp only[b8,y]
theorem qd {p:Bool}:∀ (ps:List PK) (xs:List (aI×List Leaf)) (y:ah ps),st' EPO=st EPO->(∀ x∈xs,∀ q∈ay x.2,st' q=st q)->aF st' p ps xs y=aF st p ps xs y
 |[],_,_,_,_=>by simp[aF]
 |I::ps,[],y,_,h=>by cases I <;> simp[aF]
 |I::ps,x::xs,y,M,h=>by
  have J:=λ (y:ah ps)=>qd (p:=p) ps xs y M (λz Y=>h z (BF _ Y))
  have O:=h x (BG ..);cases I with
  |io a =>
   simp only[aF,J];rw[tF x.2 _ (bi M _) (λq H=>bi (O q H) _)]
  |iop a =>
   simp only[aF,J];have X:∀ q∈ay [cl x],st' q=st q:=λq H=>O q (iX H)
   congr 1;split
   ·rename_i b v u;rw[u]at X;rw[bi (X b (by simp[ay]))]
   ·rfl
  |_=>exact J _
theorem qe {n q:Nat}:∀ {ls:List Leaf} {k:Nat},q∈ay (aS ls k (.al TMP 0 n))->q∈ay ls\/q=TMP
 |[],_,h=>.inl h
 |l::ls,0,h=>by
  rw[show aS (l::ls) 0 (.al TMP 0 n)=.al TMP 0 n::ls from rfl,dv,BB]at h;rw[dv,BB];rcases h with h|h
  ·simp[ay]at h;exact .inr h
  ·exact .inl (.inr h)
 |l::ls,k+1,h=>by
  rw[show aS (l::ls) (k+1) (.al TMP 0 n)=l::aS ls k (.al TMP 0 n) from rfl,dv,BB]at h;rw[dv,BB];rcases h with h|h
  ·exact .inl (.inl h)
  ·exact (qe h).imp .inr id
theorem pe {U:Upd}{J ls:List Leaf}(hT:st' TMP=st TMP)(u:∀ q,q≠TMP->∀ z∈ay (ac U st q).ls,z∈ay (st q).ls)(M:ay (ac U st TMP).ls=[])(Z:eK st st' J)(y:∀ q∈ay ls,q∈ay J\/q=TMP) :
  eK (ac U st) (ac U st') ls:=by
 have I:∀ r z,z∈ay (ac U st r).ls->r≠TMP:=λr z hz e=>by subst e;rw[M]at hz;simp at hz
 refine⟨λq H=>?_,λr hr q H=>?_,λr hr O Y q H=>?_⟩
 ·rcases y q H with h|h
  ·exact bi (Z.d1 q h) U
  ·subst h;exact bi hT U
 ·have X:=I r q H;exact bi (Z.d2 r ((y r hr).resolve_right X) q (u r X q H)) U
 ·have X:=I r O Y;have h2:=I O q H;exact bi (Z.d3 r ((y r hr).resolve_right X) O (u r X O Y) q (u O h2 q H)) U
theorem oD (Y:st' TMP=st TMP)(hE:st' EPO=st EPO):∀ (ps:List PK) (xs:List (aI×List Leaf)),(∀ x∈xs,eK st st' x.2)->cY st' ps xs=cY st ps xs /\
  ∀ (U:Upd) (X:List (aI×List Leaf)) (b:Option (Bool×Nat×Nat)),cY st ps xs=some (U,X,b)->(∀ y∈X,eK (ac U st) (ac U st') y.2)/\(∀ f r j,b=some (f,r,j)->st' r=st r)/\∀ ls,eK st st' ls->eK (ac U st) (ac U st') ls
 |[],xs,h=>⟨rfl,λU X b z=>by
   simp only[cY,BA,BS]at z;obtain⟨rfl,rfl,rfl⟩:=z;exact⟨h,(λ_ _ _ h=>by cases h),λ_ h=>h⟩⟩
 |_::_,[],h=>⟨rfl,λU X b z=>by
   simp only[cY,BA,BS]at z;obtain⟨rfl,rfl,rfl⟩:=z;exact⟨h,(λ_ _ _ h=>by cases h),λ_ h=>h⟩⟩
 |p::ps,x::xs,h=>by
  have hx:=h x (BG ..);obtain⟨i1,i2⟩:=oD Y hE ps xs (λy M=>h y (BF _ M));simp only[cY];cases hk:p.nest x.2 with
  |none =>
   simp only[i1,true_and];intro U X b z;simp only[BI]at z;obtain⟨u,O,z⟩:=z;simp only[BS]at z;obtain⟨rfl,rfl,rfl⟩:=z;obtain⟨j1,j2,j3⟩:=i2 u.1 u.2.1 u.2.2 O;refine⟨λy M=>?_,j2,j3⟩;rcases BO.1 M with rfl|M
   ·exact j3 _ hx
   ·exact j1 y M
  |some k =>
   obtain⟨l,Z,a1⟩:=rm hk;have hg:x.2.getD k .dead=l:=by rw[BP,Z];rfl
   have a0:∀ q∈aw [l],st' q=st q:=λq J=>hx.d1 q (fC (qF Z q J))
   simp only[hg,qc Y hE a0,true_and];intro U X b z;simp only[BI]at z;obtain⟨u,O,z⟩:=z;simp only[BS]at z;obtain⟨rfl,rfl,rfl⟩:=z;obtain⟨n,e1,I⟩:=oA (U:=u.1) (l':=u.2) O;have H:=uv (U:=u.1) (l':=u.2) O;refine⟨λy M=>?_,λf r j hb=>?_,λls a2=>pe Y I H a2 (λq J=>.inl J)⟩
   ·rcases BO.1 M with rfl|M
    ·refine pe Y I H hx λq J=>?_
     have J:q∈ay (aS x.2 k u.2):=J;rw[e1]at J;exact qe J
    ·exact pe Y I H (h y (BF _ M)) (λq J=>.inl J)
   ·simp only[BA,BS]at hb;have hr:r=(jZ l).1:=by rw[hb.2]
    rw[hr];refine a0 _ ?_;cases l with
    |nal p ks ep a3 E e xs =>
     cases ks with
     |nil =>
      exfalso;simp only[ck]at O;cases hv:bm st [] ep <;> simp[hv]at O
     |cons k ks=>rw[ir];simp[jZ]
    |_=>simp[jk]at a1
theorem zc {b:Option (Bool×Nat×Nat)}{U:Upd}(u:st' TMP=st TMP)(y:st' EPO=st EPO)(z:∀ f r j,b=some (f,r,j)->st' r=st r):jM st' b U κ=jM st b U κ:=by
 unfold jM;split
 ·rename_i r j;rw[bi (z true r j rfl),bi u,bi y]
 ·rfl
theorem tG {d:Nat}{f:FuncId}{xs:List (aI×List Leaf)}(hT:st' TMP=st TMP)(X:st' EPO=st EPO)(hx:∀ x∈xs,eK st st' x.2)(hd:st' d=st d)(hB:st' (B0+d)=st (B0+d)):jl Γ st' d f xs κ=jl Γ st d f xs κ:=by
 unfold jl;split
 ·rename_i c hc;obtain⟨n1,n2⟩:=oD hT X c.ps xs hx;rw[gB,gB,n1];cases hn:cY st c.ps xs with
  |none=>rfl
  |some u =>
   obtain⟨H,O,b⟩:=u;obtain⟨m1,m2,_⟩:=n2 H O b hn;simp only[B9];have hg:=kr (st:=ac H st) (st':=ac H st') (ga:=ca Γ (ac H st)) (ga':=ca Γ (ac H st')) c.ps O (λx I pk=>wo (m1 x I));simp only[oI,hg.1];split
   ·rename_i g a1;obtain⟨h1,h2⟩:=hg.2 g a1;have J:gG st' d c.rs=gG st d c.rs:=by
     unfold gG;split
     ·rw[hB]
     ·rfl
    have hL:∀ q,ac H st' q=ac H st q->∀ U,ac (U++H) st' q=ac (U++H) st q:=λq h U=>by rw[bA,bA];exact bi h U
    have a0:(bif c.fresh then [] else aE (ac H st') g.frz)=(bif c.fresh then [] else aE (ac H st) g.frz):=by rw[kb h1]
    have hk:∀ (U:Upd),aM (ac U (ac H st')) g.kill=aM (ac U (ac H st)) g.kill:=λU=>is (λz hz=>bi (h2 z hz) U)
    have ho:∀ (U:Upd) (p:Bool) (y:ah c.ps),aF (ac (U++H) st') p c.ps O y=aF (ac (U++H) st) p c.ps O y:=λU p y =>
     qd c.ps O y (hL _ (bi X H) U) (λx I q hq=>hL _ ((m1 x I).d1 q hq) U)
    have M:∀ (U:Upd),(g.frz.map λk=>(k.1,k.2,(ac (U++H) st' k.1).ver))=g.frz.map λk=>(k.1,k.2,(ac (U++H) st k.1).ver):=λU=>Ch λz hz=>by rw[hL _ (h1 z hz) U]
    have Y:∀ U,ac U st' d=ac U st d:=λU=>bi hd U
    have a2:∀ U,ac U st' (B0+d)=ac U st (B0+d):=λU=>bi hB U
    have Z:∀ U,ac U st' EPO=ac U st EPO:=λU=>bi X U
    simp only[J,a0,hk,ho,Y,a2,Z,<- By,M,zc hT X m2]
   ·rfl
 ·rfl
theorem rD:∀ (u:List Ty) (xs:List (aI×List Leaf)),(∀ x∈xs,∀ q∈aw x.2,st' q=st q)->iL st' u xs=iL st u xs
 |[],[],_=>rfl
 |[],_::_,_=>rfl
 |_::_,[],_=>rfl
 |a::u,x::xs,h=>by
  simp only[iL,eC (h x (BG ..)),rD u xs (λy z=>h y (BF _ z))]
theorem wq {r j i off n:Nat}{p:Bool}{E:TypeId}{e:Ty}{xs:List e.den}{h:Option (Nat×Nat)}{ls:List Leaf}(X:st' r=st r)(M:st' EPO=st EPO)(y:∀ q∈aw ls,st' q=st q):gH st' r j i off n p E e xs h ls κ=gH st r j i off n p E e xs h ls κ:=by
 unfold gH;congr 1;funext u;rw[pb e 0 u ls y];split
 ·rename_i t J;obtain⟨Y,I⟩:=pc e 0 u ls t J;have O:aE st' t.frz=aE st t.frz:=kb (λz H=>y _ (Y z H));have Z:∀ U:Upd,aM (ac U st') t.kill=aM (ac U st) t.kill:=λU=>is (λz H=>bi (y _ (I z H)) U)
  simp only[O,Z,X,bi M]
 ·rfl
end
section
variable {P:Program} {V:Env} {Γ:List Ctr} {T:TypeId->TI} {st st':St} {o:Oper} {R:Type} {κ:Upd->Option R} {r:R}
theorem dw {z:List Nat}(h:∀ q∈z++z.flatMap (λt=>aw (st t).ls),st' q=st q){x:Operand}(H:∀ t,x=.tmp t->t∈z):(∀ t,x=.tmp t->st' t=st t)/\∀ q∈aw (au st x).2,st' q=st q:=by
 refine⟨λt y=>h t (BD _ (H t y)),λq u=>?_⟩;obtain⟨t,y,u⟩:=rx u;rcases u with rfl|u
 ·exact h q (BD _ (H q y))
 ·exact h q (BE _ (BT.2 ⟨t,H t y,u⟩))
theorem nu {z:List Nat}(h:∀ q∈z++z.flatMap (λt=>ay (st t).ls),st' q=st q){x:Operand}(H:∀ t,x=.tmp t->t∈z):(∀ t,x=.tmp t->st' t=st t)/\∀ q∈ay (au st x).2,st' q=st q:=by
 refine⟨λt y=>h t (BD _ (H t y)),λq u=>?_⟩;obtain⟨t,y,u⟩:=rz u;rcases u with rfl|u
 ·exact h q (BD _ (H q y))
 ·exact h q (BE _ (BT.2 ⟨t,H t y,u⟩))
theorem qf {y:List Nat}(h:∀ q∈kv st y,st' q=st q){x:Operand}(X:∀ t,x=.tmp t->t∈y):eK st st' (au st x).2:=by
 have J:∀ q,q∈y->st' q=st q:=λq u=>h q (by simp[kv];exact .inl u)
 have Z:∀ q,q∈y.flatMap (λt=>ay (st t).ls)->st' q=st q:=λq u=>h q (by
  unfold kv;exact BD _ (BD _ (BE _ u)))
 have hb:∀ q,q∈(y.flatMap (λt=>ay (st t).ls)).flatMap (λt=>ay (st t).ls)->st' q=st q:=λq u=>h q (by
  unfold kv;exact BD _ (BE _ u))
 have hc:∀ q,q∈((y.flatMap (λt=>ay (st t).ls)).flatMap (λt=>ay (st t).ls)).flatMap (λt=>ay (st t).ls)->st' q=st q:=λq u=>h q (by
  unfold kv;exact BE _ u)
 have Y:∀ r∈ay (au st x).2,r∈y\/r∈y.flatMap (λt=>ay (st t).ls):=by
  intro r H;obtain⟨t,O,u⟩:=rz H;rcases u with rfl|u
  ·exact .inl (X r O)
  ·exact .inr (BT.2 ⟨t,X t O,u⟩)
 have l2:∀ r∈ay (au st x).2,∀ q∈ay (st r).ls,q∈y.flatMap (λt=>ay (st t).ls)\/q∈(y.flatMap (λt=>ay (st t).ls)).flatMap (λt=>ay (st t).ls):=by
  intro r H q u;rcases Y r H with z|z
  ·exact .inl (BT.2 ⟨r,z,u⟩)
  ·exact .inr (BT.2 ⟨r,z,u⟩)
 refine⟨λq u=>(Y q u).elim (J q) (Z q),λr H q u=>(l2 r H q u).elim (Z q) (hb q),λr H I M q u=>?_⟩;rcases l2 r H I M with z|z
 ·exact hb q (BT.2 ⟨I,z,u⟩)
 ·exact hc q (BT.2 ⟨I,z,u⟩)
theorem bd {xs:Array Operand}{x:Operand}(h:x∈xs):∀ t,x=.tmp t->t∈iw xs.toList:=λt e=>rv (by rw[<- e];simpa using h)
theorem op_fr (h:∀ q∈fh st o,st' q=st q)(z:∀ x,o.op≠.move x)(H:∀ t x i,o.op≠.indexAddr t x i):∀ q∈cm st o.op,st' q=st q:=λq y=>h q (by
 unfold fh;refine BD _ ?_;cases u:o.op with
 |move x=>exact absurd u (z x)
 |indexAddr t x i=>exact absurd u (H t x i)
 |_=>rw[u]at y;exact y)
theorem Aq {α β:Type}{xs:List α}{n:Int}{K:Option β}:((idx xs n).bind λ_=>K)=if 0<=n/\n<xs.length then K else none:=by
 unfold idx;by_cases u:n<0
 ·rw[if_pos u,if_neg (by omega)];rfl
 ·rw[if_neg u];by_cases y:n.toNat<xs.length
  ·rw[BR y,if_pos (by omega)];rfl
  ·rw[Cb (by omega),if_neg (by omega)];rfl
theorem Bj (h:∀ q∈fh st o,st' q=st q)(hh:∀ q∈eS st o.op,bI (st' q)=bI (st q)):act Γ T o st' κ=act Γ T o st κ:=by
 have M:=op_fr h;have a0:∀ (U:Upd) (d:Nat) (sh:aI) (ls:List Leaf),o.dst=some d->cj st' U d sh ls=cj st U d sh ls:=λU d sh ls hd=>u3 (tD hd h).1
 have hB:∀ d,o.dst=some d->st' (B0+d)=st (B0+d):=λd hd=>(tD hd h).2
 have hw:∀ (sh:aI) (ls:List Leaf),wrU o st' κ sh ls=wrU o st κ sh ls:=by
  intro sh ls;unfold wrU;split
  ·rename_i d hd;rw[a0 _ _ _ _ hd]
  ·rfl
 cases I:o.op with
 |move x =>
  simp only[I,eS]at hh;have e:au st' x=au st x:=xP λt Y=>hh t (bd (by simp[Op.operands]) t Y)
  simp only[act,I,e,hw]
 |assign x =>
  have H:=M (by simp[I]) (by simp[I]);simp only[I,cm]at H;have J:=dw H (x:=x) (bd (by simp[Op.operands]));have e:au st' x=au st x:=dR J.1;simp only[act,I,e,qH J.2,pa J.2,tA J.2];split
  ·rename_i d hd;rw[a0 _ _ _ _ hd]
  ·rfl
 |pick c x y =>
  have H:=M (by simp[I]) (by simp[I]);simp only[I,cm]at H;have e1:one st' c=one st c:=dD λt Y=>H t (bd (by simp[Op.operands]) t Y)
  have e2:au st' x=au st x:=dR λt Y=>H t (bd (by simp[Op.operands]) t Y)
  have e3:au st' y=au st y:=dR λt Y=>H t (bd (by simp[Op.operands]) t Y)
  simp only[act,I,e1,e2,e3,hw]
 |alloc t =>
  simp only[act,I];split
  ·rename_i d hd;rw[a0 _ _ _ _ hd,hB d hd]
  ·rfl
 |box t x =>
  have H:=M (by simp[I]) (by simp[I]);simp only[I,cm]at H;have J:=dw H (x:=x) (bd (by simp[Op.operands]));have e:au st' x=au st x:=dR J.1;have b0:sd st' x=sd st x:=by cases x <;> first|rfl|(simp only[sd];rw[J.1 _ rfl])
  simp only[act,I,e,qH J.2,pa J.2,tA J.2,b0];split
  ·rename_i d hd;simp only[a0 _ _ _ _ hd,hB d hd,bi (hB d hd)]
  ·rfl
 |build t a2 =>
  have H:=M (by simp[I]) (by simp[I]);simp only[I,cm]at H;have hb:∀ a6 ls,fg st' a6 a2.toList ls=fg st a6 a2.toList ls:=λa6 ls=>qb _ _ (λx J t Y=>H t (bd (by simp only[Op.operands,Ct,BL];exact⟨x,J,rfl⟩) t Y))
  simp only[act,I,hw,hb]
 |buildSlice t n a2 =>
  have H:=M (by simp[I]) (by simp[I]);simp only[I,cm]at H;have J:∀ x∈a2.toList,(∀ t,x.2=.tmp t->st' t=st t)/\∀ q∈aw (au st x.2).2,st' q=st q:=λx J =>
   dw H (bd (by simp only[Op.operands,Ct,BL];exact⟨x,J,rfl⟩))
  simp only[act,I];split
  ·rw[oy _ _ J];split
   ·rename_i u c3;have b9:=oz _ _ _ c3;have b3:∀ z,z∈u.frz\/z∈u.kill->st' z.1=st z.1:=λz hz=>by
     obtain⟨x,bl,c2⟩:=b9 z hz;exact (J x bl).2 _ c2
    have e1:aE st' u.frz=aE st u.frz:=kb λz hz=>b3 z (.inl hz)
    have e2:∀ U:Upd,aM (ac U st') u.kill=aM (ac U st) u.kill:=λU=>is (λz hz=>bi (b3 z (.inr hz)) U)
    simp only[e1,e2];congr 1;split
    ·rename_i d hd;rw[a0 _ _ _ _ hd]
    ·rfl
   ·rfl
  ·rfl
 |load t x =>
  have H:=M (by simp[I]) (by simp[I]);simp only[I,cm]at H;have J:=nu H (x:=x) (bd (by simp[Op.operands]));have e:one st' x=one st x:=dD J.1;have X:∀ q∈ay [one st x],st' q=st q:=λq O=>J.2 q (tB O)
  simp only[act,I,e,hw];congr 1;split
  ·rfl
  ·rename_i b off Z;rw[Z]at X;rw[X b (by simp[ay])]
  ·rfl
  ·rename_i p ks ep a y off Z;rw[Z]at X;rw[jA (λq O=>X q (by simpa[ay]using O))]
  ·rename_i r j v i sz off Z;rw[Z]at X;rw[ci (l:=.al r j v) (λq O=>X q (by simp[aw]at O;simp[ay,O])),X EPO (by simp[ay])]
  ·rfl
 |store t x y =>
  have H:=M (by simp[I]) (by simp[I]);simp only[I,cm]at H;have J:=nu H (x:=x) (bd (by simp[Op.operands]));have hy:=nu H (x:=y) (bd (by simp[Op.operands]));have e:one st' x=one st x:=dD J.1;have e2:au st' y=au st y:=dR hy.1;have X:∀ q∈ay [one st x],st' q=st q:=λq O=>J.2 q (tB O)
  have a9:∀ q∈aw (au st y).2,st' q=st q:=λq O=>hy.2 q (fC O)
  simp only[act,I,e,e2,qH a9,pa a9,tA a9];split
  ·rfl
  ·congr 1;split
   ·rename_i b off Z;rw[Z]at X;have hb:=X b (by simp[ay]);simp only[hb,bi hb]
   ·rename_i r j v i sz off Z;rw[Z]at X;have c1:=X r (by simp[ay]);rw[ci (l:=.al r j v) (λq O=>X q (by simp[aw]at O;simp[ay,O]))];split
    ·rw[wq c1 (X EPO (by simp[ay])) a9]
    ·rfl
   ·rfl
 |nilCheck x =>
  have H:=M (by simp[I]) (by simp[I]);simp only[I,cm]at H;have J:=dw H (x:=x) (bd (by simp[Op.operands]));have e:one st' x=one st x:=dD J.1;have X:∀ q∈aw [one st x],st' q=st q:=λq O=>J.2 q (jh O)
  simp only[act,I,e,hw];split
  ·rfl
  ·rfl
  ·rename_i r j v i sz off Z;rw[Z]at X;rw[X r (by simp[aw])]
  ·rfl
  ·rename_i p ks ep a y off Z;rw[Z,uZ]at X;rw[jA X]
  ·rfl
 |binOp op t x y t' =>
  have H:=M (by simp[I]) (by simp[I]);simp only[I,cm]at H;have J:=dw H (x:=x) (bd (by simp[Op.operands]));have hy:=dw H (x:=y) (bd (by simp[Op.operands]));have e1:one st' x=one st x:=dD J.1;have e2:one st' y=one st y:=dD hy.1;have e3:au st' x=au st x:=dR J.1;have e4:au st' y=au st y:=dR hy.1;simp only[act,I,e1,e2,e3,e4,hw,eC J.2,eC hy.2]
 |unOp op t x =>
  have H:=M (by simp[I]) (by simp[I]);simp only[I,cm]at H;have e1:one st' x=one st x:=dD λt Y=>H t (bd (by simp[Op.operands]) t Y)
  simp only[act,I,e1,hw]
 |convert s t x =>
  have H:=M (by simp[I]) (by simp[I]);simp only[I,cm]at H;have J:=dw H (x:=x) (bd (by simp[Op.operands]));have e1:one st' x=one st x:=dD J.1;have X:∀ q∈aw [one st x],st' q=st q:=λq O=>J.2 q (jh O)
  simp only[act,I,e1,hw];split
  ·rfl
  ·rw[ci X]
  ·rfl
  ·rfl
 |makeSlice t n c =>
  have H:=M (by simp[I]) (by simp[I]);simp only[I,cm]at H;have e1:one st' n=one st n:=dD λt Y=>H t (bd (by simp[Op.operands]) t Y)
  have e2:one st' c=one st c:=dD λt Y=>H t (bd (by simp[Op.operands]) t Y)
  simp only[act,I,e1,e2,hw]
 |slice t x lo hi mx =>
  have H:=M (by simp[I]) (by simp[I]);simp only[I,cm]at H;have hE:=H EPO (BG ..);have H:=λq O=>H q (BF _ O)
  have J:=dw H (x:=x) (bd (by simp[Op.operands]));have bn:∀ n,di st' lo n=di st lo n:=λn=>nm λy hy t Y=>H t (BD _ (bd (by simp[Op.operands,hy]) t Y))
  have ba:∀ n,di st' hi n=di st hi n:=λn=>nm λy hy t Y=>H t (BD _ (bd (by simp[Op.operands,hy]) t Y))
  have e:one st' x=one st x:=dD J.1;have X:∀ q∈aw [one st x],st' q=st q:=λq O=>J.2 q (jh O)
  have bb:∀ m,mx=some m->di st' (some m) 0=di st (some m) 0:=λm hm=>nm λy hy t Y=>H t (BD _ (bd (by simp[Op.operands,hm,Cy hy]) t Y))
  simp only[act,I,e,bn,ba,ci X,hE];cases hd:o.dst with
  |none=>cases mx <;> rfl
  |some d =>
   cases mx with
   |none=>simp only[a0 _ _ _ _ hd]
   |some m =>
    simp only[bb m rfl];split
    ·rename_i r j v _ Z _;rw[Z]at X;rw[ci X,is (st:=st) (st':=st') (λz hz=>by simp at hz;subst hz;exact X _ (by simp[aw]))];simp only[a0 _ _ _ _ hd]
    ·rfl
 |fieldAddr t x f =>
  have H:=M (by simp[I]) (by simp[I]);simp only[I,cm]at H;have J:=dw H (x:=x) (bd (by simp[Op.operands]));have e:one st' x=one st x:=dD J.1;have X:∀ q∈aw [one st x],st' q=st q:=λq O=>J.2 q (jh O)
  simp only[act,I,e,hw];split
  ·split
   ·split
    ·rfl
    ·rfl
    ·rename_i r j v i sz off Z;rw[Z]at X;rw[X r (by simp[aw])]
    ·rename_i p ks ep a y o' Z;rw[Z,uZ]at X;rw[jA X]
    ·rfl
   ·rfl
  ·rfl
 |field t x f =>
  have H:=M (by simp[I]) (by simp[I]);simp only[I,cm]at H;have e1:au st' x=au st x:=dR λt Y=>H t (bd (by simp[Op.operands]) t Y)
  simp only[act,I,e1,hw]
 |indexAddr t x i =>
  simp only[I,eS]at hh;have b5:∀ y∈(Op.indexAddr t x i).operands,∀ t,y=.tmp t->bI (st' t)=bI (st t):=λy hy t Y=>hh t (BD _ (bd hy t Y))
  have e:one st' x=one st x:=zw (b5 x (by simp[Op.operands]));have e2:one st' i=one st i:=zw (b5 i (by simp[Op.operands]));have X:∀ q∈aw [one st x],bI (st' q)=bI (st q):=λq O=>by
   obtain⟨t',c0,O⟩:=rx (jh O);have a5:=bd (xs:=(Op.indexAddr t x i).operands) (x:=x) (by simp[Op.operands]) t' c0;rcases O with rfl|O
   ·exact hh q (BD _ a5)
   ·exact hh q (BE _ (BT.2 ⟨t',a5,O⟩))
  simp only[act,I,e,e2,hw];split
  ·split
   ·rfl
   ·split
    ·rename_i r j v Z;rw[Z]at X;have O:=X r (by simp[aw]);have hv:(st' r).ver=(st r).ver:=by simp only[bI,BS]at O;exact O.1
     simp only[aD,hv];cases BJ (st r).ver v with
     |false=>rfl
     |true =>
      simp only[cond_true];rcases tC (xQ O j) with e3|⟨p,p',h1,h2,E1,E2,e',c5,xs,c6,e3,e4,e5,e6⟩
      ·rw[e3]
      ·rw[e3,e4];simp only[pn,e5,Aq,e6]
    ·rfl
    ·rename_i p ks ep c4 E' e' xs Z;rw[Z,ir]at X;rw[zb X]
    ·rfl
   ·rfl
  ·rfl
 |index t x i =>
  have H:=M (by simp[I]) (by simp[I]);simp only[I,cm]at H;have J:=dw H (x:=x) (bd (by simp[Op.operands]));have e1:one st' x=one st x:=dD J.1;have e2:one st' i=one st i:=dD (dw H (x:=i) (bd (by simp[Op.operands]))).1;have e3:au st' x=au st x:=dR J.1;simp only[act,I,e1,e2,e3,hw,λe n=>nj (e:=e) n _ J.2]
 |extract x i =>
  have H:=M (by simp[I]) (by simp[I]);simp only[I,cm]at H;have e1:au st' x=au st x:=dR λt Y=>H t (bd (by simp[Op.operands]) t Y)
  simp only[act,I,e1,hw]
 |makeFunc fn first a3 =>
  have H:=M (by simp[I]) (by simp[I]);simp only[I,cm]at H;cases fn with
  |func f =>
   have:sf st' a3.toList=sf st a3.toList:=u5 (st:=st) (st':=st') a3.toList (some []) (λx J t Y=>H t (bd (by simp[Op.operands];exact .inr (by simpa using J)) t Y));simp only[act,I,hw,this]
  |_=>simp only[act,I]
 |call c =>
  have H:=M (by simp[I]) (by simp[I]);simp only[I,cm]at H;simp only[act,I];split
  ·rfl
  ·rename_i d hd;obtain⟨b1,b2⟩:=tD hd h;cases hc:c.callee with
   |value f =>
    simp only[hc]at H;have hT:=H TMP (BG ..);have hE:=H EPO (BF _ (BG ..));have H:=λq O=>H q (BF _ (BF _ O))
    have b4:f∈(Op.call c).operands:=by simp[Op.operands,Call.operands,hc]
    have ad:∀ x∈c.args.toList,x∈(Op.call c).operands:=λx J=>by
     simp only[Op.operands,Call.operands,hc,Cu];exact .inr (by simpa using J)
    have a5:∀ x∈(Op.call c).operands,∀ t,x=.tmp t->st' t=st t:=λx J t Y=>H t (by
     unfold kv;exact BD _ (BD _ (BD _ (bd J t Y))))
    have e1:one st' f=one st f:=dD (a5 f b4);have e2:c.args.toList.map (au st')=c.args.toList.map (au st):=Ch λx J=>dR (a5 x (ad x J))
    have a4:∀ x∈c.args.toList.map (au st),eK st st' x.2:=by
     intro x J;obtain⟨y,hy,rfl⟩:=BL.1 J;exact qf H (bd (ad y hy))
    simp only[e1,e2];split
    ·rename_i g a3 Z;refine tG hT hE ?_ b1 b2;intro x J;rcases BB.1 J with J|J
     ·exact a4 x J
     ·obtain⟨b,hb,rfl⟩:=BL.1 J;have hf:=qf H (bd b4);rw[qI Z (by simp)]at hf;exact pd hf _ (BL.2 ⟨b,hb,rfl⟩)
    ·rename_i g a3 Z;refine tG hT hE ?_ b1 b2;intro x J;rcases BB.1 J with J|J
     ·exact a4 x J
     ·obtain⟨cp,bx,rfl⟩:=BL.1 J;exact nr _ (BL.2 ⟨cp,bx,rfl⟩)
    ·rename_i As B φ Z;rw[rD As _ (λx J q O=>(a4 x J).d1 q (fC O))];simp only[hw]
    ·rfl
   |builtin b =>
    simp only[hc]at H;have hT:=H TMP (BG ..);have H:=λq O=>H q (BF _ O)
    have ad:∀ x∈c.args.toList,x∈(Op.call c).operands:=λx J=>by
     simp only[Op.operands,Call.operands,hc,Cu];exact .inr (by simpa using J)
    have J:∀ x∈c.args.toList,one st' x=one st x/\∀ q∈aw [one st x],st' q=st q:=λx J=>by
     have:=dw H (bd (ad x J));exact⟨dD this.1,λq O=>this.2 q (jh O)⟩
    cases b with
    |len =>
     dsimp only;split
     ·rename_i x a1;have h1:=J x (by rw[a1];simp);simp only[h1.1,ci h1.2,hw]
     ·rfl
    |append =>
     dsimp only;split
     ·rename_i x y t u a1 _;have h1:=J x (by rw[a1];simp);have h2:=J y (by rw[a1];simp);split
      ·rw[h1.1,h2.1,wn hT h1.2 h2.2 b1]
      ·rfl
     ·rfl
    |min =>
     dsimp only;split
     ·rename_i x y a1;rw[(J x (by rw[a1];simp)).1,(J y (by rw[a1];simp)).1];simp only[hw]
     ·rfl
    |max =>
     dsimp only;split
     ·rename_i x y a1;rw[(J x (by rw[a1];simp)).1,(J y (by rw[a1];simp)).1];simp only[hw]
     ·rfl
    |_=>rfl
   |invoke x n=>rfl
 |_=>simp only[act,I]
end
section
variable {P:Program} {V:Env} {Γ:List Ctr} {T:TypeId->TI} {st st':St} {o:Oper} {R:Type} {all:Array Oper}
def mo (Γ:List Ctr)(T:TypeId->TI)(all:Array Oper)(o:Oper)(st:St)(U:Upd):Prop :=
 match o.guard with
 |none=>act Γ T o st some=some U
 |some (j,r)=>∃ t,(all[j]?).bind (·.dst)=some t /\
  ((∃ b,(st t).sh=.one/\(st t).ls=[.bool b]/\((b=r/\act Γ T o st some=some U)\/(b≠r/\U=eE st o)))\/((st t).sh=.und/\U=eE st o))
def jB (Γ:List Ctr)(T:TypeId->TI)(all:Array Oper)(o:Oper)(st:St)(U:Upd)(t:cK):Prop :=
 ((∀ q∈U.map (·.1),q∈t.wr\/q∈t.cw)/\(∀ q∈t.wr,q∈U.map (·.1))/\∀ q,q∈U.map (·.1)->q∉t.wr->bI (ac U st q)=bI (st q))/\match o.guard with
 |none=>act Γ T o st some=some U/\(∀ q∈fh st o,q∈t.rd)/\∀ q∈eS st o.op,q∈t.hd
 |some (j,r)=>∃ s,(all[j]?).bind (·.dst)=some s/\s∈t.rd /\
  ((∃ b,(st s).sh=.one/\(st s).ls=[.bool b]/\((b=r/\act Γ T o st some=some U/\(∀ q∈fh st o,q∈t.rd)/\∀ q∈eS st o.op,q∈t.hd)\/(b≠r/\U=eE st o/\∀ d,o.dst=some d->d∈t.wr))) \/
   ((st s).sh=.und/\U=eE st o/\∀ d,o.dst=some d->d∈t.wr))
theorem tH {α:Type}:∀ {l:List α} {j:Nat} {x:α},l[j]?=some x->l.set j x=l
 |[],_,_,h=>by simp at h
 |y::l,0,x,h=>by simp at h;subst h;rfl
 |y::l,j+1,x,h=>by rw[Cn,tH (by simpa using h)]
theorem Ar {U:Upd}(h:act Γ T o st some=some U):∀ q∈dZ st o,bI (ac U st q)=bI (st q):=by
  intro q u;unfold dZ at u;split at u
  · rename_i t x y J
    split at u
    · rename_i r j a1 i sz off hx
      simp only[B4]at u;subst u;simp only[act,wrU,J]at h;split at h
      · cases h
      · cases hb:BJ (au st y).2.length (T t).cells&&decide ((au st y).1=bf (T t).agg)&&!decide ((T t).cells=0) with
        |false=>simp[hb]at h
        |true =>
          simp only[hb,cond_true,hx]at h;split at h
          · rename_i p hh E e xs hd
            cases hc:BJ sz e.cells&&decide (off+(au st y).2.length<=e.cells)&&rT q with
            |false=>simp[hc]at h
            |true =>
              simp only[hc,cond_true]at h;obtain⟨_,hl⟩:=eY hd (by simp);have z:∀ (M:Bool) (H:Option (Nat×Nat)) (v:e.den) (X:Upd),bI (ac ((q,⟨(st q).ver,(st q).sh,aS (st q).ls j (.own M H E e (xs.set i v))⟩)::X) st q)=bI (st q):=by
                intro M H v X;rw[aO,bh];simp only[bI,aS];rw[List.map_set,tH];rw[Cq,hl];simp[jp]
              unfold gH at h;obtain⟨a0,_,h⟩:=Bz.1 h;split at h
              · rename_i t _
                cases I:t.rest.isEmpty&&aY t.kill&&dC t.frz t.kill&&!((t.kill++t.frz).any λk=>BJ k.1 q) with
                |false=>rw[I]at h;cases h
                |true =>
                  simp only[I,cond_true]at h;cases hh with
                  |none =>
                    simp only[BA]at h;rw[<- h];exact z _ _ _ _
                  |some hp =>
                    obtain⟨hi,Y⟩:=hp;simp only at h;cases O:Cg off Y&&CZ Y (off+(au st y).2.length) with
                    |false =>
                      rw[O]at h;simp only[cond_false,BA]at h;rw[<- h];exact z _ _ _ _
                    |true =>
                      rw[O]at h;simp only[cond_true]at h;cases Z:BJ i hi with
                      |false=>rw[Z]at h;cases h
                      |true =>
                        rw[Z]at h;simp only[cond_true,BA]at h;rw[<- h];exact z _ _ _ _
              · cases h
          · cases h
    · simp at u
  · simp at u
theorem pf {t:Nat}{b:Bool}(r:(st t).sh=.one)(u:(st t).ls=[.bool b]):lit st t b=st:=by
 funext q;unfold lit;rcases am t q ⟨(st t).ver,.one,[.bool b]⟩ st with ⟨rfl,e⟩|⟨_,e⟩
 ·rw[e,<- r,<- u]
 ·exact e
theorem wt {U:Upd}(h:act Γ T o st some=some U):(∀ q∈U.map (·.1),q∈(U.map (·.1)).filter (λq=>!((dZ st o).any (BJ q)))\/q∈dZ st o)/\(∀ q∈(U.map (·.1)).filter (λq=>!((dZ st o).any (BJ q))),q∈U.map (·.1)) /\
  ∀ q,q∈U.map (·.1)->q∉(U.map (·.1)).filter (λq=>!((dZ st o).any (BJ q)))->bI (ac U st q)=bI (st q):=by
 have r:∀ q,(dZ st o).any (BJ q)=true->q∈dZ st o:=λq u=>by
  obtain⟨x,H,z⟩:=CK.1 u;rw[BH z];exact H
 refine⟨λq u=>?_,λq u=>(CF.1 u).1,λq u I=>?_⟩
 ·cases y:(dZ st o).any (BJ q) with
  |true=>exact .inr (r q y)
  |false=>exact .inl (CF.2 ⟨u,by rw[y];rfl⟩)
 ·refine Ar h q (r q ?_);cases y:(dZ st o).any (BJ q) with
  |true=>rfl
  |false=>exact absurd (CF.2 ⟨u,by rw[y];rfl⟩) I
theorem At {κ:St->cK->Option R}{r:R}(h:opK Γ T all o st κ=some r):∃ U t,jB Γ T all o st U t/\κ (ac U st) t=some r:=by
 have X:∀ (z:List Nat),act Γ T o st (λU=>κ (ac U st) ⟨z++fh st o,eS st o.op,(U.map (·.1)).filter (λq=>!((dZ st o).any (BJ q))),dZ st o⟩)=some r ->
   ∃ U,act Γ T o st some=some U/\κ (ac U st) ⟨z++fh st o,eS st o.op,(U.map (·.1)).filter (λq=>!((dZ st o).any (BJ q))),dZ st o⟩=some r:=by
  intro z h;rw[tz]at h;obtain⟨U,M,Y⟩:=Bz.1 h;exact⟨U,M,Y⟩
 have y:((∀ q∈(eE st o).map (·.1),q∈o.dst.toList\/q∈([]:List Nat))/\(∀ q∈o.dst.toList,q∈(eE st o).map (·.1))/\∀ q,q∈(eE st o).map (·.1)->q∉o.dst.toList->bI (ac (eE st o) st q)=bI (st q)):=by
  unfold eE;cases o.dst with
  |none=>simp
  |some d=>simp
 unfold opK at h;unfold jB;cases hg:o.guard with
 |none =>
  simp only[hg]at h;obtain⟨U,M,Y⟩:=X [] h;exact⟨U,_,⟨wt M,M,λq H=>by simpa using H,λq H=>H⟩,Y⟩
 |some jw =>
  obtain⟨j,O⟩:=jw;simp only[hg]at h;split at h
  ·rename_i t Z;have J:∀ d,o.dst=some d->d∈o.dst.toList:=λd hd=>by simp[hd]
   split at h
   ·rename_i b u I;have hl:∀ b',b'=b->lit st t b'=st:=λb' e=>pf u (by rw[I,e])
    cases b with
    |true =>
     simp only[cond_true,hl true rfl]at h;cases O with
     |true =>
      simp only[cond_true]at h;obtain⟨U,M,Y⟩:=X [t] h;exact⟨U,_,⟨wt M,t,Z,by simp,.inl ⟨true,u,I,.inl ⟨rfl,M,λq H=>BE _ H,λq H=>H⟩⟩⟩,Y⟩
     |false =>
      simp only[cond_false]at h;exact⟨eE st o,_,⟨y,t,Z,by simp,.inl ⟨true,u,I,.inr ⟨by simp,rfl,J⟩⟩⟩,h⟩
    |false =>
     simp only[cond_false,hl false rfl]at h;cases O with
     |true =>
      simp only[cond_true]at h;exact⟨eE st o,_,⟨y,t,Z,by simp,.inl ⟨false,u,I,.inr ⟨by simp,rfl,J⟩⟩⟩,h⟩
     |false =>
      simp only[cond_false]at h;obtain⟨U,M,Y⟩:=X [t] h;exact⟨U,_,⟨wt M,t,Z,by simp,.inl ⟨false,u,I,.inl ⟨rfl,M,λq H=>BE _ H,λq H=>H⟩⟩⟩,Y⟩
   ·rename_i u;exact⟨eE st o,_,⟨y,t,Z,by simp,.inr ⟨u,rfl,J⟩⟩,h⟩
   ·cases h
  ·cases h
theorem u6 {U:Upd}(e:U=eE st o)(u:∀ d,o.dst=some d->st' d=st d):U=eE st' o:=by
 rw[e];unfold eE;cases r:o.dst with
 |none=>rfl
 |some d=>simp only[u d r]
theorem jB.frame {U:Upd}{t:cK}(h:jB Γ T all o st U t)(u:∀ q,q∈t.rd\/q∈t.wr->st' q=st q)(hh:∀ q∈t.hd,bI (st' q)=bI (st q)):mo Γ T all o st' U:=by
 obtain⟨_,h⟩:=h;have r:act Γ T o st some=some U->(∀ q∈fh st o,q∈t.rd)->(∀ q∈eS st o.op,q∈t.hd)->act Γ T o st' some=some U:=by
  intro H h2 Y;rw[Bj (λq J=>u q (.inl (h2 q J))) (λq J=>hh q (Y q J))];exact H
 unfold mo;cases hg:o.guard with
 |none =>
  rw[hg]at h;exact r h.1 h.2.1 h.2.2
 |some jw =>
  obtain⟨j,a1⟩:=jw;rw[hg]at h;obtain⟨s,H,h2,Y⟩:=h;have a0:=u s (.inl h2);refine⟨s,H,?_⟩;rw[a0];rcases Y with ⟨b,X,I,y⟩|⟨X,I,y⟩
  ·refine .inl ⟨b,X,I,?_⟩;rcases y with ⟨O,h8,Z,z⟩|⟨O,h8,Z⟩
   ·exact .inl ⟨O,r h8 Z z⟩
   ·exact .inr ⟨O,u6 h8 (λd M=>u d (.inr (Z d M)))⟩
  ·exact .inr ⟨X,u6 I (λd M=>u d (.inr (y d M)))⟩
theorem wu (hV:ax V)(hT:TOk P T)(hΓ:∀ c∈Γ,bO P c){ops:Array Oper}{i:Nat}(hi:ops[i]?=some o)(J:bL V o)(H:∀ j u,o.guard=some (j,u)->∀ s,(ops[j]?).bind (·.dst)=some s->s<V.nt)
  {U:Upd} (h:mo Γ T ops o st U) {a:Act} {w:World} (z:Rel P V st a w) {K:Act->World->Prop} {Q:Exit->Act->World->Prop} (hK:∀ a' w',Rel P V (ac U st) a' w'->K a' w'):wpOp P ops Q i K a w:=by
 obtain⟨W,z⟩:=z;unfold wpOp;simp only[hi];have a0:act Γ T o st some=some U->o.wp P a w K Q:=by
  intro X;obtain⟨U',h2,h3⟩:=Bi hV hT hΓ J X;cases h2;exact h3 W a w z K Q hK
 have y:U=eE st o->K (a.put o.dst undef) w:=by
  intro e;refine hK _ _ ?_;subst e;unfold eE;cases hd:o.dst with
  |none=>exact⟨W,z⟩
  |some d=>exact z.putLs hV d (J d hd).1 (J d hd).2 _ .und [] undef [] (CD _) ⟨rfl,rfl⟩ trivial
 unfold mo at h;cases O:o.guard with
 |none =>
  rw[O]at h;have M:Region.wanted o (yielded ops a.tmps)=true:=by simp[Region.wanted,O]
  rw[if_pos M];exact .inl (a0 h)
 |some jw =>
  obtain⟨j,u⟩:=jw;rw[O]at h;obtain⟨s,X,h2⟩:=h;have Y:=H j u O s X;have a2:s<GH:=Co Y hV.nt;have r:=z.slots s a2;have a1:s<a.tmps.size:=by rw[z.nt];exact Y
  have I:a.tmps[s]?=some (a.tmps.getD s undef):=by
   rw[BN,BM a1];rfl
  rcases h2 with ⟨b,h3,h4,h5⟩|⟨h3,h5⟩
  ·have Z:=z.len s;rw[h4]at Z;rw[h3]at r;have r:W.cs s=[a.tmps.getD s undef]:=r;have hv:=z.leaf s 0 (.bool b) (a.tmps.getD s undef) (by rw[h4];rfl) (by rw[r];rfl);have hv:a.tmps.getD s undef=.bool b:=hv;have hy:yielded ops a.tmps j=some b:=by simp[yielded,X,I,hv]
   rcases h5 with ⟨rfl,h6⟩|⟨h6,h7⟩
   ·have M:Region.wanted o (yielded ops a.tmps)=true:=by simp[Region.wanted,O,hy]
    rw[if_pos M];exact .inl (a0 h6)
   ·have M:Region.wanted o (yielded ops a.tmps)=false:=by
     simp only[Region.wanted,O,hy];cases b <;> cases u <;> simp at h6 <;> rfl
    rw[M];exact y h7
  ·rw[h3]at r;obtain⟨hv,_⟩:=r;have hy:yielded ops a.tmps j=none:=by
    unfold yielded;rw[X,B9,I,hv];rfl
   have M:Region.wanted o (yielded ops a.tmps)=false:=by simp[Region.wanted,O,hy]
   rw[M];exact y h5
def Run (Γ:List Ctr)(T:TypeId->TI)(all:Array Oper):St->List Oper->List Upd->List cK->St->Prop
 |st,[],[],[],st'=>st'=st
 |st,o::y,U::u,t::r,st'=>jB Γ T all o st U t/\Run Γ T all (ac U st) y u r st'
 |_,_,_,_,_=>False
theorem pg:∀ (H:List Oper) (st:St) (y:List cK) (z:St->List cK->Option R) (r:R),qk Γ T all H st y z=some r ->
  ∃ I u st',Run Γ T all st H I u st'/\z st' (y++u)=some r
 |[],st,y,z,r,h=>⟨[],[],st,rfl,by simpa[qk]using h⟩
 |o::H,st,y,z,r,h=>by
  simp only[qk]at h;obtain⟨U,t,O,M⟩:=At h;obtain⟨I,u,st',X,J⟩:=pg H (ac U st) (y++[t]) z r M;exact⟨U::I,t::u,st',⟨O,X⟩,by rw[By]at J;exact J⟩
theorem jB.res {U:Upd}{t:cK}(h:jB Γ T all o st U t):mo Γ T all o st U:=h.frame (λ_ _=>rfl) (λ_ _=>rfl)
theorem u7 (Z:ax V)(X:TOk P T)(hΓ:∀ c∈Γ,bO P c){ops:Array Oper}(u:∀ (i:Nat) (o:Oper),ops[i]?=some o->bL V o)
  (r:∀ (i:Nat) (o:Oper),ops[i]?=some o->∀ j z,o.guard=some (j,z)->∀ s,(ops[j]?).bind (·.dst)=some s->s<V.nt) {Q:Exit->Act->World->Prop} :
  ∀ (y:List Oper) (k:Nat) (st:St) (us:List Upd) (I:List cK) (st':St),ops.toList.drop k=y->Run Γ T ops st y us I st'->(∀ a w,Rel P V st' a w->Q .normal a w) ->
   ∀ a w,Rel P V st a w->wpOps P ops Q (List.range' k y.length) a w
 |[],k,st,[],[],st',_,h,H,a,w,J=>by
  have h:st'=st:=h;subst h;exact H a w J
 |o::y,k,st,U::us,t::I,st',Y,h,H,a,w,J=>by
  obtain⟨h1,h2⟩:=h;have M:ops[k]?=some o:=by
   have:(ops.toList.drop k)[0]?=some o:=by rw[Y];rfl
   rw[List.getElem?_drop]at this;simpa using this
  rw[CA,List.range'_succ,wpOps_cons];refine wu Z X hΓ M (u k o M) (r k o M) h1.res J (λa' w' O=>?_);exact u7 Z X hΓ u r y (k+1) (ac U st) us I st' (by rw[<- Cd,Y];rfl) h2 H a' w' O
end
section
variable {P:Program} {V:Env} {Γ:List Ctr} {T:TypeId->TI} {st st':St} {o:Oper} {R:Type} {all:Array Oper}
def dg (D:Nat->Bool):List Upd->St->St
 |[],st=>st
 |U::r,st=>dg (λj=>D (j+1)) r (bif D 0 then ac U st else st)
theorem ji {q:Nat}:∀ {U:Upd} (s u:St),q∈U.map (·.1)->ac U s q=ac U u q
 |[],_,_,h=>by simp at h
 |(r,c)::U,s,u,h=>by
  simp only[ac];cases y:BJ q r with
  |true=>rfl
  |false =>
   simp only[cond_false];refine ji s u ?_;simp only[BY,BO]at h;rcases h with rfl|h
   ·simp at y
   ·exact h
theorem eD {q:Nat}:∀ {U:Upd} (s:St),q∉U.map (·.1)->ac U s q=s q
 |[],_,_=>rfl
 |(r,c)::U,s,h=>by
  simp only[BY,BO,not_or]at h;have u:BJ q r=false:=by
   cases u:BJ q r with
   |false=>rfl
   |true=>exact absurd (BH u) h.1
  simp only[ac,u,cond_false];exact eD s h.2
theorem xR {U u:Upd}(h:∀ q,q∈U.map (·.1)->q∉u.map (·.1))(s:St):ac u (ac U s)=ac U (ac u s):=by
 funext q;by_cases r:q∈U.map (·.1)
 ·rw[eD _ (h q r)];exact ji _ _ r
 ·rw[eD (U:=U) _ r];by_cases y:q∈u.map (·.1)
  ·exact ji _ _ y
  ·rw[eD _ y,eD _ y,eD _ r]
theorem mp:∀ {us:List Upd} {D D':Nat->Bool} {s:St},(∀ j,j<us.length->D j=D' j)->dg D us s=dg D' us s
 |[],_,_,_,_=>rfl
 |U::us,D,D',s,h=>by
  simp only[dg];rw[h 0 (by simp)];exact mp (λj r=>h (j+1) (by simpa using r))
theorem nv:∀ {us:List Upd} {D:Nat->Bool} {s:St},(∀ j,D j=false)->dg D us s=s
 |[],_,_,_=>rfl
 |U::us,D,s,h=>by
  simp only[dg,h 0,cond_false];exact nv (λj=>h (j+1))
theorem mq {q:Nat}:∀ {us:List Upd} {D D':Nat->Bool} {s r:St},s q=r q->(∀ (j:Nat) (U:Upd),us[j]?=some U->q∈U.map (·.1)->D j=D' j)->dg D us s q=dg D' us r q
 |[],_,_,_,_,h,_=>h
 |U::us,D,D',s,r,h,H=>by
  simp only[dg];refine mq ?_ (λj J y z=>H (j+1) J (by simpa using y) z);by_cases u:q∈U.map (·.1)
  ·rw[H 0 U rfl u];cases D' 0 with
   |true=>exact ji _ _ u
   |false=>exact h
  ·have I:∀ b:Bool,(bif b then ac U s else s) q=s q:=by intro b;cases b <;> simp[eD _ u]
   have M:∀ b:Bool,(bif b then ac U r else r) q=r q:=by intro b;cases b <;> simp[eD _ u]
   rw[I,M,h]
theorem ny {U:Upd}:∀ {us:List Upd} {D:Nat->Bool} {s:St},(∀ (j:Nat) (u:Upd),us[j]?=some u->D j=true->∀ q,q∈U.map (·.1)->q∉u.map (·.1))->dg D us (ac U s)=ac U (dg D us s)
 |[],_,_,_=>rfl
 |u::us,D,s,h=>by
  simp only[dg];cases H:D 0 with
  |true =>
   simp only[cond_true];rw[xR (h 0 u rfl H)];exact ny (λj r y z=>h (j+1) r (by simpa using y) z)
  |false =>
   simp only[cond_false];exact ny (λj r y z=>h (j+1) r (by simpa using y) z)
theorem oE {U:Upd}:∀ {us:List Upd} {i:Nat} {D D':Nat->Bool} {s:St},us[i]?=some U->D i=false->(∀ j,D' j=(D j||BJ j i)) ->
  (∀ (j:Nat) (u:Upd),us[j]?=some u->i<j->D j=true->∀ q,q∈U.map (·.1)->q∉u.map (·.1))->dg D' us s=ac U (dg D us s)
 |[],i,_,_,_,h,_,_,_=>by simp at h
 |V::us,0,D,D',s,h,z,r,H=>by
  simp at h;subst h;simp only[dg];have I:D' 0=true:=by rw[r 0];simp
  rw[I,z];simp only[cond_true,cond_false];have e:dg (λj=>D' (j+1)) us (ac V s)=dg (λj=>D (j+1)) us (ac V s):=mp (λj _=>by rw[r (j+1)];simp[BJ]);rw[e];exact ny (λj u y J=>H (j+1) u (by simpa using y) (by omega) J)
 |V::us,i+1,D,D',s,h,z,r,H=>by
  simp only[dg];have I:D' 0=D 0:=by rw[r 0];simp[BJ]
  rw[I];exact oE (i:=i) (by simpa using h) z (λj=>by rw[r (j+1)];simp[BJ]) (λj u y J M=>H (j+1) u (by simpa using y) (by omega) M)
theorem qJ:∀ {r:List Oper} {us:List Upd} {u:List cK} {s z:St},Run Γ T all s r us u z->∀ (i:Nat) (o:Oper),r[i]?=some o ->
  ∃ U t,us[i]?=some U/\u[i]?=some t/\jB Γ T all o (dg (λj=>decide (j<i)) us s) U t
 |[],_,_,_,_,_,i,o,h=>by simp at h
 |H::r,[],_,_,_,h,_,_,_=>h.elim
 |H::r,_::_,[],_,_,h,_,_,_=>h.elim
 |H::r,U::us,t::u,s,z,h,0,o,y=>by
  simp at y;subst y;exact⟨U,t,rfl,rfl,by rw[nv (λj=>by simp)];exact h.1⟩
 |H::r,U::us,t::u,s,z,h,i+1,o,y=>by
  obtain⟨I,M,J,X,O⟩:=qJ h.2 i o (by simpa using y);refine⟨I,M,by simpa using J,by simpa using X,?_⟩;simp only[dg];have e:(λj=>decide (j+1<i+1))=λj=>decide (j<i):=by funext j;simp
  rw[e];simpa using O
theorem u9:∀ {r:List Oper} {us:List Upd} {u:List cK} {s y:St},Run Γ T all s r us u y->us.length=r.length/\u.length=r.length/\y=dg (λ_=>true) us s
 |[],[],[],_,_,h=>⟨rfl,rfl,h⟩
 |[],_::_,_,_,_,h=>h.elim
 |[],[],_::_,_,_,h=>h.elim
 |_::_,[],_,_,_,h=>h.elim
 |_::_,_::_,[],_,_,h=>h.elim
 |o::r,U::us,t::u,s,y,h=>by
  obtain⟨z,I,H⟩:=u9 h.2;exact⟨by simp[z],by simp[I],by simpa[dg]using H⟩
theorem qK {q:Nat}:∀ {os:List Oper} {us:List Upd} {J:List cK} {z s':St} {D:Nat->Bool} {F:Nat->Bool} {s sF:St} {B:Prop},Run Γ T all z os us J s'->(∀ (j:Nat) (t:cK),J[j]?=some t->F j=decide (q∈t.wr)) ->
  bI (s q)=bI (sF q)->(B->bI (sF q)=bI (z q)) ->
  (∀ (j:Nat) (t:cK) (U:Upd),J[j]?=some t->us[j]?=some U->D j=true->q∉t.wr->q∈U.map (·.1)->B/\∀ (k:Nat) (t':cK),k<j->J[k]?=some t'->q∈t'.wr->D k=true) ->
  bI (dg D us s q)=bI (dg (λj=>D j&&F j) us sF q)
 |[],[],[],_,_,_,_,_,_,_,_,_,I,_,_=>I
 |[],_::_,_,_,_,_,_,_,_,_,h,_,_,_,_=>h.elim
 |[],[],_::_,_,_,_,_,_,_,_,h,_,_,_,_=>h.elim
 |_::_,[],_,_,_,_,_,_,_,_,h,_,_,_,_=>h.elim
 |_::_,_::_,[],_,_,_,_,_,_,_,h,_,_,_,_=>h.elim
 |o::os,U::us,t::J,z,s',D,F,s,sF,B,h,hF,I,h2,O=>by
  obtain⟨⟨⟨k1,k2,k3⟩,_⟩,H⟩:=h;have y:=hF 0 t rfl;simp only[dg];refine qK (F:=λj=>F (j+1)) (B:=B/\(q∈t.wr->D 0=true)) H (λj t' X=>hF (j+1) t' (by simpa using X)) ?_ ?_ ?_
  ·by_cases r:q∈U.map (·.1)
   ·by_cases u:q∈t.wr
    ·rw[y,decide_eq_true u,CW];cases D 0 with
     |true=>simp only[cond_true];rw[ji s sF r]
     |false=>exact I
    ·rw[y,decide_eq_false u,CP];simp only[cond_false];cases M:D 0 with
     |true =>
      simp only[cond_true];rw[ji s z r,k3 q r u];exact (h2 (O 0 t U rfl rfl M u r).1).symm
     |false=>exact I
   ·have e:∀ (b:Bool) (x:St),(bif b then ac U x else x) q=x q:=by intro b x;cases b <;> simp[eD _ r]
    rw[e,e];exact I
  ·rintro⟨hB,M⟩;by_cases r:q∈U.map (·.1)
   ·by_cases u:q∈t.wr
    ·rw[y,decide_eq_true u,CW,M u];simp only[cond_true];rw[ji sF z r]
    ·rw[y,decide_eq_false u,CP];simp only[cond_false];rw[k3 q r u];exact h2 hB
   ·have e:∀ (b:Bool) (x:St),(bif b then ac U x else x) q=x q:=by intro b x;cases b <;> simp[eD _ r]
    rw[e,eD _ r];exact h2 hB
  ·intro j t' U' X hU M u r;obtain⟨g1,g2⟩:=O (j+1) t' U' (by simpa using X) (by simpa using hU) M u r;exact⟨⟨g1,λa0=>g2 0 t (by omega) rfl a0⟩,λk t2 hk Z Y=>g2 (k+1) t2 (by omega) (by simpa using Z) Y⟩
theorem rE {f:Nat->Nat}{i:Nat}:∀ (l:List Edge) (s:Nat),(l.foldl (λs e=>bif Region.binds .any e then s ||| 2 ^ e.on ||| f e.on else s) s).testBit i=true ->
  s.testBit i=true\/∃ e∈l,Region.binds .any e=true/\(i=e.on\/(f e.on).testBit i=true)
 |[],s,h=>.inl h
 |e::l,s,h=>by
  simp only[Cz]at h;rcases rE l _ h with h|⟨y,u,z⟩
  ·cases r:Region.binds .any e with
   |false=>rw[r]at h;exact .inl h
   |true =>
    rw[r]at h;simp only[cond_true,Nat.testBit_or,CL]at h;rcases h with (h|h)|h
    ·exact .inl h
    ·refine .inr ⟨e,BG ..,r,.inl ?_⟩;rw[Nat.testBit_two_pow]at h;exact (of_decide_eq_true h).symm
    ·exact .inr ⟨e,BG ..,r,.inr h⟩
  ·exact .inr ⟨y,BF _ u,z⟩
theorem tI:∀ (z:List Oper) (r:List Nat),(∀ j,j<r.length->(jC z r).getD j 0=r.getD j 0) /\
  ∀ (k:Nat) (o:Oper),z[k]?=some o->∃ u:List Nat,u.length=r.length+k/\(∀ j,j<u.length->u.getD j 0=(jC z r).getD j 0) /\
   (jC z r).getD (r.length+k) 0=o.after.toList.foldl (λs e=>bif Region.binds .any e then s ||| 2 ^ e.on ||| u.getD e.on 0 else s) 0
 |[],r=>⟨λ_ _=>rfl,λk o h=>by simp at h⟩
 |o::z,r=>by
  obtain⟨I,J⟩:=tI z (r++[o.after.toList.foldl (λs e=>bif Region.binds .any e then s ||| 2 ^ e.on ||| r.getD e.on 0 else s) 0]);have y:∀ j,j<r.length->(jC (o::z) r).getD j 0=r.getD j 0:=by
   intro j H;simp only[jC];rw[I j (by simp;omega)];simp[BP,Bv H]
  refine⟨y,λk O h=>?_⟩;cases k with
  |zero =>
   simp at h;subst h;refine⟨r,rfl,λj H=>(y j H).symm,?_⟩;simp only[jC];rw[Nat.add_zero,I r.length (by simp)];simp[BP]
  |succ k =>
   obtain⟨u,X,Y,M⟩:=J k O (by simpa using h);refine⟨u,by simp at X;omega,λj H=>Y j H,?_⟩;simp only[jC];have e:r.length+(k+1)=(r++[o.after.toList.foldl (λs e=>bif Region.binds .any e then s ||| 2 ^ e.on ||| r.getD e.on 0 else s) 0]).length+k:=by simp;omega
   rw[e];exact M
theorem jq {ops:Array Oper}{D:Nat->Prop}(z:∀ (j:Nat) (o:Oper),ops[j]?=some o->D j->∀ e∈o.after.toList,Region.binds .any e=true->D e.on) :
  ∀ (n j:Nat),j<n->∀ (o:Oper),ops[j]?=some o->(∀ e∈o.after.toList,Region.binds .any e=true->D e.on)->∀ i,((jC ops.toList []).getD j 0).testBit i=true->D i
 |0,_,h,_,_,_,_,_=>by omega
 |n+1,j,hj,o,M,I,i,Y=>by
  obtain⟨r,Z,h2,X⟩:=(tI ops.toList []).2 j o (by simpa using M);simp only[List.length_nil,CE]at Z X;rw[X]at Y;rcases rE (f:=λk=>r.getD k 0) _ _ Y with h|⟨e,O,J,y⟩
  ·simp at h
  ·rcases y with rfl|y
   ·exact I e O J
   ·have H:e.on<r.length:=by
     apply Bw;intro hn;have:r.getD e.on 0=0:=by
      rw[BP,Cb (by omega)];rfl
     rw[this]at y;simp at y
    rw[h2 _ H]at y;have hD:=I e O J;have u:e.on<ops.size:=by
     have:=(CQ.1 M).1;omega
    exact jq z n e.on (by omega) ops[e.on] (BM u) (z e.on _ (BM u) hD) i y
theorem fR {a b:List Nat}(h:lK a b=false){q:Nat}(r:q∈a):q∉b:=by
 intro u;unfold lK at h;rw[CU]at h;have:=h q r;simp only[CK,not_exists,not_and]at this;exact this q u (by simp)
theorem lh {r:List Nat}{u:List cK}(h:pt r u=true){i j:Nat}(z:i<j){x y:cK}(O:u[i]?=some x)(I:u[j]?=some y):(r.getD j 0).testBit i=true\/x.apart y=true:=by
 unfold pt at h;rw[BX]at h;have M:=(BK.1 I).1;have H:=h j (by simpa using M);rw[BX]at H;have J:=H i (by simpa using z);simp only[O,I,CL]at J;exact J
theorem qg {p p':Nat->Bool}{i:Nat}(I:p i=true)(r:p' i=false)(h:∀ j,j≠i->p' j=p j):∀ (l:List Nat),l.Nodup->i∈l->l.countP p'+1=l.countP p
 |[],_,u=>by simp at u
 |x::l,z,u=>by
  rw[B5]at z;by_cases H:x=i
  ·subst H;have e:l.countP p'=l.countP p:=by
    apply List.countP_congr;intro y J;rw[h y (λe=>z.1 (e ▸ J))]
   simp[I,r,e]
  ·have M:=qg I r h l z.2 ((BO.1 u).resolve_left (λe=>H e.symm));simp only[Cv,h x H];omega
theorem Bk (hV:ax V)(hT:TOk P T)(hΓ:∀ c∈Γ,bO P c){ops:Array Oper}(dd:∀ (i:Nat) (o:Oper),ops[i]?=some o->bL V o)
  (ba:∀ (i:Nat) (o:Oper),ops[i]?=some o->∀ j c5,o.guard=some (j,c5)->∀ s,(ops[j]?).bind (·.dst)=some s->s<V.nt) {Q:Exit->Act->World->Prop}
  {us:List Upd} {ts:List cK} {s0 s1:St} (a1:Run Γ T ops s0 ops.toList us ts s1) (a4:nE ops=true) (c3:pt (jC ops.toList []) ts=true) (hQ:∀ a w,Rel P V s1 a w->Q .normal a w) :
  ∀ (a0:Nat) (r:Array Bool) (a:Act) (w:World),r.size=ops.size->(C3 ops.size).countP (λi=>!r.getD i true)=a0 ->
   (∀ (j:Nat) (o:Oper),ops[j]?=some o->r.getD j false=true->∀ e∈o.after.toList,Region.binds .any e=true->r.getD e.on false=true) ->
   Rel P V (dg (λj=>r.getD j false) us s0) a w->wpAny P .any ops Q a0 r a w:=by
 obtain⟨ec,ed,cp⟩:=u9 a1;have ef:ops.toList.length=ops.size:=Ci;have bl:∀ (r:Array Bool),r.size=ops.size->Region.ready .any ops r=[]->∀ i,i<ops.size->r.getD i false=true:=by
  intro r a2 hr i;induction i using C0 with
  |ind i ih =>
   intro hi;cases hl:r.getD i false with
   |true=>rfl
   |false =>
    exfalso;have e4:r.getD i true=false:=by
     rw[BN,BM (by omega)]at hl ⊢;exact hl
    have ho:ops[i]?=some ops[i]:=BM hi;have bx:i∈Region.ready .any ops r:=by
     unfold Region.ready;rw[CF];refine⟨by simpa using hi,?_⟩;rw[e4,ho];simp only[C4,Cm,Bu,Cw];rw[CH];intro e he;cases e6:Region.binds .any e with
     |false=>rfl
     |true =>
      simp only[Bool.not_true,Bool.false_or];have b9:e.on<i:=by
       unfold nE at a4;rw[BX]at a4;have:=a4 i (by simpa using hi);simp only[ho]at this;rw[BX]at this;have:=this e (by simpa using he);simpa[e6]using this
      exact ih e.on b9 (by omega)
    rw[hr]at bx;simp at bx
 have bn:∀ (r:Array Bool) (a:Act) (w:World),r.size=ops.size->Rel P V (dg (λj=>r.getD j false) us s0) a w->Region.ready .any ops r=[]->Q .normal a w:=by
  intro r a w a2 hr bb;refine hQ a w ?_;rw[cp];have:dg (λ_=>true) us s0=dg (λj=>r.getD j false) us s0:=mp (λj J=>(bl r a2 bb j (by omega)).symm);rw[this];exact hr
 intro a0;induction a0 with
 |zero =>
  intro r a w a2 X b3 hr;have bb:Region.ready .any ops r=[]:=by
   unfold Region.ready;rw[List.filter_eq_nil_iff];intro i hi hc;rw[Cj]at X;have:=X i hi;simp only[BC]at hc;exact this hc.1
  exact⟨bb,bn r a w a2 hr bb⟩
 |succ a0 ih =>
  intro r a w a2 X b3 hr;refine⟨bn r a w a2 hr,λi hi=>?_⟩;unfold Region.ready at hi;rw[CF]at hi;obtain⟨b5,c1⟩:=hi;have b5:i<ops.size:=by simpa using b5
  have ho:ops[i]?=some ops[i]:=BM b5;rw[ho]at c1;simp only[BC,B8,Bu,Cw]at c1;obtain⟨b1,a9⟩:=c1;rw[CH]at a9;have O:r.getD i false=false:=by
   rw[BN,BM (by omega)]at b1 ⊢;exact b1
  have d1:∀ e∈(ops[i]).after.toList,Region.binds .any e=true->r.getD e.on false=true:=by
   intro e he hb;have:=a9 e (by simpa using he);simpa[hb]using this
  obtain⟨U,t,hU,ht,ad⟩:=qJ a1 i ops[i] (by simp);have b4:∀ (j:Nat) (o:Oper),ops[j]?=some o->(λk=>r.getD k false=true) j->∀ e∈o.after.toList,Region.binds .any e=true->(λk=>r.getD k false=true) e.on:=b3;obtain⟨e3,_,_⟩:=ad.1;have Y:∀ (j:Nat) (M:Upd),us[j]?=some M->∃ H,ts[j]?=some H/\(∀ q∈M.map (·.1),q∈H.wr\/q∈H.cw)/\∀ q∈H.wr,q∈M.map (·.1):=by
   intro j M J;have a5:j<ops.size:=by
    have:=(BK.1 J).1;omega
   obtain⟨U2,t2,h1,Z,h3⟩:=qJ a1 j ops[j] (by simp[a5]);rw[J]at h1;cases h1;exact⟨t2,Z,h3.1.1,h3.1.2.1⟩
  have cb:∀ (j:Nat) (M:Upd),us[j]?=some M->j≠i->r.getD j false≠decide (j<i)->∃ H,ts[j]?=some H/\(∀ q∈M.map (·.1),q∈H.wr\/q∈H.cw)/\(H.apart t=true\/t.apart H=true):=by
   intro j M J b0 u;obtain⟨H,h1,Z,_⟩:=Y j M J;refine⟨H,h1,Z,?_⟩;rcases Nat.lt_or_gt_of_ne b0 with b9|e0
   ·have hl:r.getD j false=false:=by
     cases hl:r.getD j false with
     |false=>rfl
     |true=>rw[hl]at u;simp[b9]at u
    rcases lh c3 b9 h1 ht with h3|h3
    ·have:=jq b4 (i+1) i (CD _) ops[i] ho d1 j h3;rw[hl]at this;cases this
    ·exact .inl h3
   ·have hl:r.getD j false=true:=by
     cases hl:r.getD j false with
     |true=>rfl
     |false=>rw[hl]at u;simp at u;omega
    have a5:j<ops.size:=by
     have:=(BK.1 J).1;omega
    have b2:ops[j]?=some ops[j]:=BM a5;rcases lh c3 e0 ht h1 with h3|h3
    ·have:=jq b4 (j+1) j (CD _) ops[j] b2 (b3 j _ b2 hl) i h3;rw[O]at this;cases this
    ·exact .inr h3
  have a3:∀ (x y:cK),x.apart y=true->(∀ q,q∈x.wr\/q∈x.cw->(q∉y.wr/\q∉y.cw)/\q∉y.rd)/\(∀ q,q∈y.wr\/q∈y.cw->(q∉x.wr/\q∉x.cw)/\q∉x.rd)/\(∀ q∈x.wr,q∉y.hd)/\∀ q∈y.wr,q∉x.hd:=by
   intro x y h;unfold cK.apart at h;simp only[BC,B8]at h;obtain⟨⟨⟨⟨h1,Z⟩,h3⟩,h4⟩,h5⟩:=h;refine⟨λq I=>?_,λq I=>?_,λq I=>fR h4 I,λq I hx=>fR h5 hx I⟩
   ·have I:=BB.2 I;have:=fR h1 I;simp only[BB,not_or]at this;exact⟨this,fR Z I⟩
   ·have I:=BB.2 I;have:q∉x.wr++x.cw:=λhx=>fR h1 hx I
    simp only[BB,not_or]at this;exact⟨this,λhx=>fR h3 hx I⟩
  have c0:∀ (j:Nat) (M:Upd),us[j]?=some M->j≠i->r.getD j false≠decide (j<i)->∀ q∈M.map (·.1),(q∉t.wr/\q∉t.cw)/\q∉t.rd:=by
   intro j M J b0 u q I;obtain⟨H,_,h1,Z⟩:=cb j M J b0 u;rcases Z with Z|Z
   ·exact (a3 _ _ Z).1 q (h1 q I)
   ·exact (a3 _ _ Z).2.1 q (h1 q I)
  have c4:∀ (j:Nat) (H:cK),ts[j]?=some H->j≠i->r.getD j false≠decide (j<i)->∀ q∈H.wr,q∉t.hd:=by
   intro j H J b0 u q I;have a5:j<us.length:=by
    have:=(BK.1 J).1;omega
   obtain⟨t2,h0,_,Z⟩:=cb j us[j] (BR a5) b0 u;rw[J]at h0;cases h0;rcases Z with Z|Z
   ·exact (a3 _ _ Z).2.2.1 q I
   ·exact (a3 _ _ Z).2.2.2 q I
  have cc:mo Γ T ops ops[i] (dg (λj=>r.getD j false) us s0) U:=by
   refine ad.frame (λq I=>?_) (λq I=>?_)
   ·refine mq rfl λj M J d3=>?_
    by_cases z:j=i
    ·subst z;rw[O];simp
    ·apply Bw;intro u;have:=c0 j M J z u q d3;rcases I with I|I
     ·exact this.2 I
     ·exact this.1.1 I
   ·have cu:∀ (j:Nat) (H:cK),ts[j]?=some H->(λj=>match ts[j]? with|some H=>decide (q∈H.wr)|none=>false) j=decide (q∈H.wr):=λj H h=>by simp only[h]
    have e1:=qK (q:=q) (D:=λj=>r.getD j false) (F:=λj=>match ts[j]? with|some H=>decide (q∈H.wr)|none=>false) (s:=s0) (sF:=s0) (B:=True) a1 cu rfl (λ_=>rfl) (λj H M J hU hD hw dc=>by
     refine⟨trivial,λk t2 hk d2 cx=>?_⟩;obtain⟨t3,h3,h4,_⟩:=Y j M hU;rw[J]at h3;cases h3;have e5:=(h4 q dc).resolve_left hw;have a5:j<ops.size:=by
      have:=(BK.1 hU).1;omega
     have b2:ops[j]?=some ops[j]:=BM a5;rcases lh c3 hk d2 J with h5|h5
     ·exact jq b4 (j+1) j (CD _) ops[j] b2 (b3 j _ b2 hD) k h5
     ·exact absurd e5 ((a3 _ _ h5).1 q (.inl cx)).1.2)
    have e2:=qK (q:=q) (D:=λj=>decide (j<i)) (F:=λj=>match ts[j]? with|some H=>decide (q∈H.wr)|none=>false) (s:=s0) (sF:=s0) (B:=True) a1 cu rfl (λ_=>rfl) (λj H M J hU hD hw dc=>by
     refine⟨trivial,λk t2 hk d2 cx=>?_⟩;have:=of_decide_eq_true hD;exact decide_eq_true (by omega))
    rw[e1,e2];congr 1;refine mq rfl λj M J d3=>?_
    obtain⟨H,h1,Z,_⟩:=Y j M J;simp only[h1];by_cases hw:q∈H.wr
    ·rw[decide_eq_true hw,CW,CW];by_cases z:j=i
     ·subst z;rw[O];simp
     ·apply Bw;intro u;exact c4 j H h1 z u q hw I
    ·rw[decide_eq_false hw,CP,CP]
  refine wu hV hT hΓ ho (dd i _ ho) (ba i _ ho) cc hr λa' w' eb=>?_
  have a6:∀ (b:Bool) (j:Nat),(r.setIfInBounds i true).getD j b=if j=i then true else r.getD j b:=by
   intro b j;simp only[BN,Array.getElem?_setIfInBounds];by_cases z:j=i
   ·subst z;simp[a2,b5]
   ·rw[if_neg (λe=>z e.symm),if_neg z]
  refine ih _ a' w' (by simpa using a2) ?_ ?_ ?_
  ·have:=qg (p:=λj=>!r.getD j true) (p':=λj=>!(r.setIfInBounds i true).getD j true) (i:=i) (by simp[b1]) (by simp[a6]) (λj J=>by simp[a6,J]) (C3 ops.size) List.nodup_range (by simpa using b5);omega
  ·intro j o' J c2 e he hb;rw[a6]at c2 ⊢;by_cases cy:e.on=i
   ·rw[if_pos cy]
   ·rw[if_neg cy];by_cases z:j=i
    ·subst z;rw[ho]at J;cases J;exact d1 e he hb
    ·rw[if_neg z]at c2;exact b3 j o' J c2 e he hb
  ·have c6:=oE (U:=U) (us:=us) (i:=i) (D:=λj=>r.getD j false) (D':=λj=>(r.setIfInBounds i true).getD j false) (s:=s0) hU O (λj=>by
     simp only[a6];by_cases z:j=i
     ·subst z;simp
     ·have:BJ j i=false:=by
       cases hb:BJ j i with
       |false=>rfl
       |true=>exact absurd (BH hb) z
      simp[z,this])
    (λj M J eg hD q I e7=>by
     have:=c0 j M J (by omega) (by rw[hD];simp;omega) q e7;exact (e3 q I).elim this.1.1 this.1.2)
   rw[c6];exact eb
theorem Bl (Z:ax V)(hT:TOk P T)(hΓ:∀ c∈Γ,bO P c)(M:P.follows .mixedOrders=true){id:Nat}{ops:Array Oper}{z:Bool}(J:∀ (i:Nat) (o:Oper),ops[i]?=some o->bL V o)
  (u:∀ (i:Nat) (o:Oper),ops[i]?=some o->∀ j O,o.guard=some (j,O)->∀ s,(ops[j]?).bind (·.dst)=some s->s<V.nt) {Q:Exit->Act->World->Prop} {κ:St->Option R} {r:R}
  (h:regK Γ T ops z st κ=some r) (hκ:∀ H,κ H=some r->∀ a w,Rel P V H a w->Q .normal a w) {a:Act} {w:World} (Y:Rel P V st a w):(Code.region id ops z).wp P Q a w:=by
 unfold regK at h;cases z with
 |true =>
  simp only[cond_true]at h;obtain⟨us,ts,H,y,I⟩:=pg _ _ _ _ _ h;simp only[B3]at I;cases X:nE ops&&pt (jC ops.toList []) ts with
  |false=>simp[X]at I
  |true =>
   simp only[X,cond_true]at I;simp only[BC]at X;refine wp_region_any M ?_;have hD:∀ j,(B6 ops.size false).getD j false=false:=by
    intro j;simp only[BN,CX];split <;> rfl
   refine Bk Z hT hΓ J u y X.1 X.2 (hκ H I) ops.size (B6 ops.size false) a _ (by simp) ?_ ?_ ?_
   ·rw[List.countP_eq_length.2]
    ·simp
    ·intro i hi;have hi:i<ops.size:=by simpa using hi
     simp[BN,CX,hi]
   ·intro j o' _ hl;rw[hD]at hl;cases hl
   ·rw[nv (λj=>hD j)];obtain⟨W,Y⟩:=Y;exact⟨W,Y.world Z (w':={ w with drawn:=w.drawn+1 }) (Ce _) rfl rfl rfl (λ_ _=>rfl)⟩
 |false =>
  simp only[cond_false]at h;obtain⟨us,ts,H,y,I⟩:=pg _ _ _ _ _ h;refine wp_region ?_;have:=u7 Z hT hΓ J u ops.toList 0 st us ts H (by simp) y (hκ H I) a w Y;rw[Ci,<- List.range_eq_range']at this;exact this
end
section
variable {P:Program} {V:Env} {Γ:List Ctr} {T:TypeId->TI} {st st':St} {o:Oper} {R:Type} {all:Array Oper}
theorem kL (live:List Nat):∀ (cs:List Coe) (ls:List Leaf),(cZ st live cs ls).length=ls.length
 |[],[]=>rfl
 |_::_,[]=>rfl
 |[],_::ls=>by simp[cZ,kL live [] ls]
 |_::cs,_::ls=>by simp[cZ,kL live cs ls]
theorem ph (live:List Nat):∀ (cs:List Coe) (ls:List Leaf) (j:Nat) (l:Leaf),(cZ st live cs ls)[j]?=some l->∃ r,ls[j]?=some r/\(l=.dead\/∃ c,l=bt st live c r)
 |[],[],j,l,h=>by simp[cZ]at h
 |_::_,[],j,l,h=>by simp[cZ]at h
 |[],r::ls,0,l,h=>by simp[cZ]at h;exact⟨r,rfl,.inl h.symm⟩
 |c::cs,r::ls,0,l,h=>by simp[cZ]at h;exact⟨r,rfl,.inr ⟨c,h.symm⟩⟩
 |[],r::ls,j+1,l,h=>by
  simp only[cZ,CY]at h;obtain⟨y,u,z⟩:=ph live [] ls j l h;exact⟨y,by simpa using u,z⟩
 |c::cs,r::ls,j+1,l,h=>by
  simp only[cZ,CY]at h;obtain⟨y,u,z⟩:=ph live cs ls j l h;exact⟨y,by simpa using u,z⟩
theorem Au (live:List (Nat×List Coe))(q:Nat):lL live st q=bS.none/\q∉live.map (·.1)\/∃ y,lL live st q=⟨0,(st q).sh,cZ st (live.map (·.1)) y (st q).ls⟩/\q∈live.map (·.1):=by
 have I:∀ (u:List Nat) (l:List (Nat×List Coe)),(av (l.map λr=>(r.1,⟨0,(st r.1).sh,cZ st u r.2 (st r.1).ls⟩)) q=bS.none/\q∉l.map (·.1)) \/
   ∃ y,av (l.map λr=>(r.1,⟨0,(st r.1).sh,cZ st u r.2 (st r.1).ls⟩)) q=⟨0,(st q).sh,cZ st u y (st q).ls⟩/\q∈l.map (·.1):=by
  intro u l;induction l with
  |nil=>exact .inl ⟨rfl,by simp⟩
  |cons x l O =>
   obtain⟨r,y⟩:=x;by_cases h:q=r
   ·subst h;exact .inr ⟨y,by simp[av,ac],by simp⟩
   ·have z:BJ q r=false:=by
     cases z:BJ q r with
     |false=>rfl
     |true=>exact absurd (BH z) h
    rcases O with ⟨H,M⟩|⟨J,H,M⟩
    ·refine .inl ⟨?_,by simpa[h]using M⟩;rw[<- H];simp[av,ac,z]
    ·refine .inr ⟨J,?_,by simp only[BY,BO];exact .inr M⟩;rw[<- H];simp[av,ac,z]
 exact I (live.map (·.1)) live
theorem xS {keys:List Nat}{c:Coe}{r:Leaf}(h:ao (bt st keys c r)):ao r\/r=.nil:=by
 cases r with
 |own p y E e u=>exact .inl trivial
 |nil=>exact .inr rfl
 |_ =>
  exfalso;revert h;cases c <;> simp only[bt] <;> first
   |exact id
   |(cases (!_||_:Bool) <;> first | exact id | (split <;> exact id))
   |(cases (_&&_:Bool) <;> exact id)
   |(cases (List.any _ _:Bool) <;> exact id)
   |(cases (List.all _ _:Bool) <;> exact id)
theorem iM.nw {W W':Wit}{w:World}{c:Bool×Bool×(a:Ty)×a.den}{u:Value}(r:∀ k,W.nw k->W'.nw k)(h:iM V W w c u):iM V W' w c u:=by
 have z:∀ (p:Bool) k,gd V W p k->gd V W' p k:=λp k hk=>hk.imp (r k) id
 unfold iM at h ⊢;split at h
 ·rename_i Z;rw[if_pos Z];obtain⟨b,ob,g,J,X,I,H,y,O,M,Y⟩:=h;exact⟨b,ob,g,J,X,I,H.imp (r b) id,y,O.imp (r g) id,Rd.mono (z _) M,Y⟩
 ·rename_i Z;rw[if_neg Z];obtain⟨g,J,X,I,O,M,Y⟩:=h;exact⟨g,J,X,I,O.imp (r g) id,Rd.mono (z _) M,Y⟩
theorem wv {W W':Wit}{w:World}{keys:List Nat}{bs bs':List Nat}{c:Coe}{M:Leaf}{v:Value}(h:aK P V W st w bs M v)
  (J:∀ k,W.nw k->W'.nw k) (hβ:W'.β=W.β) (a4:∀ q,keys.any (BJ q)=true->W'.cs q=W.cs q) (z:∀ b,keys.any (BJ b)=true->(st b).sh=.agg->(st' b).sh=.agg)
  (a2:ao M->bs'=bs) (a3:M=.nil->bs'=[]) (a1:ao M->¬ ao (bt st keys c M)->(∃ p E e,c=.ro p E e)->∀ k∈bs,W'.nw k) :
  aK P V W' st' w bs' (bt st keys c M) v:=by
 have H:∀ (p q:Bool),(!q||p)=true->∀ k,gd V W q k->gd V W' p k:=by
  intro p q a6 k I;rcases I with I|⟨X,I⟩
  ·exact .inl (J k I)
  ·refine .inr ⟨?_,I⟩;subst X;simpa using a6
 cases c with
 |kill=>simp only[bt];trivial
 |keep =>
  cases M with
  |int k n=>exact h
  |bool b=>exact h
  |str s=>exact h
  |nil=>exact h
  |hdr n=>exact h
  |fn As B φ=>exact h
  |clr f O =>
   obtain⟨us,X,h2,h3⟩:=h;exact⟨us,X,h2,λi c u g1 g2=>(h3 i c u g1 g2).nw J⟩
  |al r j n =>
   simp only[bt];cases y:keys.any (BJ r)&&BJ (st r).ver n with
   |false=>trivial
   |true =>
    simp only[BC]at y;exact⟨Cx _,λ_=>by rw[a4 r y.1];exact h.2 (BH y.2)⟩
  |bp b off =>
   simp only[bt];cases y:keys.any (BJ b) with
   |false=>trivial
   |true =>
    obtain⟨X,h2,h3⟩:=h;exact⟨X,z b y h2,by rw[hβ];exact h3⟩
  |clo f O =>
   simp only[bt];cases y:O.all (λb=>keys.any (BJ b)) with
   |false=>trivial
   |true =>
    obtain⟨X,h2⟩:=h;rw[BX]at y;exact⟨by rw[hβ];exact X,λb a0=>⟨(h2 b a0).1,z b (y b a0) (h2 b a0).2⟩⟩
  |_=>simp only[bt];trivial
 |own p E e =>
  cases M with
  |nil =>
   have Z:v=.slice none 0 0:=h;subst Z;rw[a3 rfl];exact OwH.nil w _ E e
  |own q hh E' e' xs =>
   cases hh with
   |some x=>simp only[bt];trivial
   |none =>
    simp only[bt];cases y:(!q||p) with
    |false=>trivial
    |true =>
     rw[a2 trivial];exact OwH.carry h (H p q y) (λ_ _=>rfl) (λ_ _=>rfl)
  |_=>simp only[bt];trivial
 |ro p E e =>
  cases M with
  |nil =>
   have Z:v=.slice none 0 0:=h;subst Z;exact Rd.nil w _ false E e
  |ro q E' e' xs =>
   simp only[bt];cases y:(!q||p) with
   |false=>trivial
   |true =>
    simp only[cond_true];split
    ·rename_i ys hc;exact Rd.castSh (m:=false) (m':=false) (E:=E) hc (Rd.mono (H p q y) h)
    ·trivial
  |own q hh E' e' xs =>
   cases hh with
   |some x=>simp only[bt];trivial
   |none =>
    have a9:=a1 trivial (by
     simp only[bt];cases (!q||p) with
     |false=>exact id
     |true=>simp only[cond_true];split <;> exact id) ⟨p,E,e,rfl⟩
    simp only[bt];cases y:(!q||p) with
    |false=>trivial
    |true =>
     simp only[cond_true];split
     ·rename_i ys hc;refine Rd.castSh (m:=false) (m':=false) (E:=E) (E':=E') hc (Rd.mono (λk I=>?_) (OwH.rd (m:=false) (E':=E') h));rcases I with I|I
      ·exact H p q y k I
      ·exact .inl (a9 k I)
     ·trivial
  |_=>simp only[bt];trivial
 |rp p =>
  cases M with
  |rpp q a x =>
   simp only[bt];cases y:(!q||p) with
   |false=>trivial
   |true =>
    obtain⟨b,ob,g,o',c,Z,a5,Y,hg,hr,hc⟩:=h;exact⟨b,ob,g,o',c,Z,a5.imp (J b) id,Y,hg.imp (J g) id,Rd.mono (H p q y) hr,hc⟩
  |rp q a x off =>
   simp only[bt];cases y:(!q||p) with
   |false=>trivial
   |true =>
    obtain⟨g,o',c,Z,hg,hr,hc⟩:=h;exact⟨g,o',c,Z,hg.imp (J g) id,Rd.mono (H p q y) hr,hc⟩
  |_=>simp only[bt];trivial
open Classical in
theorem va (_hV:ax V){a:Act}{w:World}(h:Rel P V st a w)(live:List (Nat×List Coe))(a9:∀ x∈V.fixb,x.1∈live.map (·.1)):Rel P V (lL live st) a w:=by
 obtain⟨W,h⟩:=h;have J:=Au (st:=st) live;have Y:∀ b,Go.Proofs.YtadlacffdemoiaaGreatEv.live (lL live st) b->Go.Proofs.YtadlacffdemoiaaGreatEv.live st b:=by
  rintro b ⟨z,I⟩;rcases J b with ⟨e,_⟩|⟨cs,e,_⟩
  ·rw[e]at I;cases I
  ·rw[e]at I;exact⟨z,I⟩
 have a1:∀ (q j:Nat) (l:Leaf),(lL live st q).ls[j]?=some l->q∈live.map (·.1)/\∃ r,(st q).ls[j]?=some r/\(l=.dead\/∃ c,l=bt st (live.map (·.1)) c r):=by
  intro q j l X;rcases J q with ⟨e,_⟩|⟨cs,e,y⟩
  ·rw[e]at X;simp[bS.none]at X
  ·rw[e]at X;exact⟨y,ph _ _ _ _ _ X⟩
 have b5:∀ (q j:Nat) (l:Leaf),(lL live st q).ls[j]?=some l->ao l->∃ r,(st q).ls[j]?=some r/\(ao r\/r=.nil):=by
  intro q j l X ho;obtain⟨_,r,z,I⟩:=a1 q j l X;rcases I with rfl|⟨c,rfl⟩
  ·exact ho.elim
  ·exact⟨r,z,xS ho⟩
 have a0:∀ b,(live.map (·.1)).any (BJ b)=true->b∈live.map (·.1):=λb O=>by
  rw[CK]at O;obtain⟨x,hx,he⟩:=O;rw[BH he];exact hx
 let H:Nat->Nat->List Nat:=λq j=>if (∃ r,(st q).ls[j]?=some r/\ao r) then W.bs q j else []
 let a2:Nat->Prop:=λk=>W.nw k\/∃ q j r l,(st q).ls[j]?=some r/\ao r/\(lL live st q).ls[j]?=some l/\¬ ao l/\k∈W.bs q j
 have Z:∀ (q j k:Nat),k∈H q j->(∃ r,(st q).ls[j]?=some r/\ao r)/\k∈W.bs q j:=by
  intro q j k M;by_cases hc:∃ r,(st q).ls[j]?=some r/\ao r
  ·simp only[H,if_pos hc]at M;exact⟨hc,M⟩
  ·simp only[H,if_neg hc]at M;simp at M
 refine⟨{ β:=W.β,cs:=λq=>if q∈live.map (·.1) then W.cs q else [],bs:=H,nw:=a2 },?_⟩
 exact {
  nt:=h.nt,df:=h.df
  slots:=λt ht=>by
   rcases J t with ⟨e,y⟩|⟨cs,e,y⟩
   ·rw[e];simp[y,bS.none,ea]
   ·rw[e];simp only[y,if_true];exact h.slots t ht
  boxes:=λb O=>by
   rcases J b with ⟨e,y⟩|⟨cs,e,y⟩
   ·rw[e];exact .inl ⟨rfl,rfl⟩
   ·rw[e];rcases h.boxes b O with ⟨z,I⟩|⟨z,E,I⟩
    ·exact .inl ⟨z,by rw[I];exact List.eq_nil_of_length_eq_zero (by rw[kL];rfl)⟩
    ·exact .inr ⟨z,E,by simp only[y,if_true];exact I⟩
  len:=λq=>by
   rcases J q with ⟨e,y⟩|⟨cs,e,y⟩
   ·rw[e];simp[y,bS.none]
   ·rw[e];simp only[y,if_true,kL];exact h.len q
  one:=λq u hu=>by
   by_cases y:q∈live.map (·.1)
   ·simp only[y,if_true]at hu;exact h.one q u hu
   ·simp only[y,if_false]at hu;simp at hu
  leaf:=λq j l v X hv=>by
   obtain⟨y,r,z,I⟩:=a1 q j l X;simp only[y,if_true]at hv;have b0:=h.leaf q j r v z hv;rcases I with rfl|⟨c,rfl⟩
   ·trivial
   ·refine wv (st:=st) (W:=W) (W':={ β:=W.β,cs:=λq=>if q∈live.map (·.1) then W.cs q else [],bs:=H,nw:=a2 }) (keys:=live.map (·.1)) b0 (λk M=>Or.inl M) rfl (λq hq=>if_pos (a0 q hq)) ?_ ?_ ?_ ?_
    ·intro b O b2;have a4:=a0 b O;rcases J b with ⟨_,a6⟩|⟨cs,e,_⟩
     ·exact absurd a4 a6
     ·rw[e];exact b2
    ·intro ho;show H q j=_;simp only[H,if_pos (⟨r,z,ho⟩:∃ r,(st q).ls[j]?=some r/\ao r)]
    ·intro e;show H q j=_;have hc:¬ ∃ r,(st q).ls[j]?=some r/\ao r:=by
      rintro⟨l1,h3,h4⟩;rw[z,e]at h3;cases h3;exact h4.elim
     simp only[H,if_neg hc]
    ·intro ho hn _ k M;exact .inr ⟨q,j,r,_,z,ho,X,hn,M⟩
  ownb:=λq j l X ho k M=>by
   obtain⟨⟨r,z,I⟩,h3⟩:=Z q j k M;obtain⟨q1,q2,q3⟩:=h.ownb q j r z I k h3;refine⟨?_,q2,λb O=>q3 b (Y b O)⟩;rintro (hn|⟨q',j',l1,l2,h4,h5,h6,h7,h8⟩)
   ·exact q1 hn
   ·obtain⟨rfl,rfl⟩:=h.sep q j r q' j' l1 z I h4 h5 k h3 h8;rw[X]at h6;cases h6;exact h7 ho
  sep:=λq j l q' j' l' _ _ _ _ k M b4=>by
   obtain⟨⟨r,z,I⟩,h3⟩:=Z q j k M;obtain⟨⟨ad,b1,a5⟩,b3⟩:=Z q' j' k b4;exact h.sep q j r q' j' ad z I b1 a5 k h3 b3
  box:=λb O=>by
   obtain⟨q1,q2⟩:=h.box b (Y b O);refine⟨?_,q2⟩;rintro (hn|⟨q',j',l1,l2,h4,h5,h6,h7,h8⟩)
   ·exact q1 hn
   ·exact (h.ownb q' j' l1 h4 h5 _ h8).2.2 b (Y b O) rfl
  inj:=λb b' O a3=>h.inj b b' (Y b O) (Y b' a3)
  nwlt:=λk M=>by
   rcases M with hn|⟨q',j',l1,l2,h4,h5,h6,h7,h8⟩
   ·exact h.nwlt k hn
   ·exact⟨h.own_lt h4 h5 k h8,(h.ownb q' j' l1 h4 h5 k h8).2.1⟩
  os:=h.os,tape:=h.tape,output:=h.output,size:=h.size,keep:=h.keep
  fixb:=λx hx=>by
   obtain⟨⟨z,I⟩,h3⟩:=h.fixb x hx;refine⟨⟨z,?_⟩,h3⟩;rcases J x.1 with ⟨_,y⟩|⟨cs,e,_⟩
   ·exact absurd (a9 x hx) y
   ·rw[e];exact I
  fixt:=h.fixt }
def exOf:Ex->Exit
 |.normal=>.normal
 |.exit id=>.exit id
 |.ret=>.ret
theorem mr {nt:Nat}{fix:List Nat}(u:V.nt=nt)(r:∀ x∈V.fixt,x.1∈fix)(h:ln nt fix all o=true):bL V o:=by
 intro d z;simp only[ln,z,BC,B8,CU]at h;obtain⟨⟨y,I⟩,_⟩:=h;refine⟨by rw[u];simpa[CG]using y,λx H e=>?_⟩;exact I _ (r x H) (by simp[e])
end
section
variable {P:Program} {V:Env} {Γ:List Ctr} {T:TypeId->TI} {R:Type}
open Classical in
theorem tJ {Q:Exit->Act->World->Prop}{a:Act}{w:World}{c:Code}(J:Nat->Act->World->Prop)(h0:∃ n,J n a w)(hz:∀ a w,¬ J 0 a w)
  (u:∀ n a w,J (n+1) a w->c.wp P (Exit.then (J n) Q) a w):(Code.loop c).wp P Q a w:=by
 have y:∀ (a:Act) (w:World) (n:Nat),J n a w->∃ m,J m a w/\m<=n/\∀ k,J k a w->m<=k:=by
  intro a w n;induction n using C0 with
  |ind n ih =>
   intro z;by_cases h:∃ k,k<n/\J k a w
   ·obtain⟨k,I,hJ⟩:=h;obtain⟨m,r,O,M⟩:=ih k I hJ;exact⟨m,r,by omega,M⟩
   ·refine⟨n,z,Ce _,λk I=>?_⟩;apply Bw;intro a0;exact h ⟨k,by omega,I⟩
 let H:Act->World->Nat:=λa w=>if h:∃ m,J m a w/\∀ k,J k a w->m<=k then h.choose else 0
 have hμ:∀ a w n,J n a w->J (H a w) a w/\H a w<=n:=by
  intro a w n z;obtain⟨m,r,_,M⟩:=y a w n z;have h:∃ m,J m a w/\∀ k,J k a w->m<=k:=⟨m,r,M⟩;have e:H a w=h.choose:=by simp only[H];rw[dif_pos h]
  rw[e];exact⟨h.choose_spec.1,h.choose_spec.2 n z⟩
 refine wp_loop (λa w=>∃ n,J n a w) H h0 λa w ⟨n,z⟩=>?_
 obtain⟨r,_⟩:=hμ a w n z;cases Y:H a w with
 |zero=>rw[Y]at r;exact absurd r (hz a w)
 |succ m =>
  rw[Y]at r;refine wp_mono (u m a w r) λe a' Z X=>?_
  cases e with
  |normal =>
   have O:J m a' Z:=X;exact⟨⟨m,O⟩,Nat.lt_succ_of_le (hμ a' Z m O).2⟩
  |_=>exact X
theorem zd {st:St}{a:Act}{w:World}(u:Rel P V st a w){t:Nat}(y:t<GH){b:Bool}(z:(st t).sh=.one)(I:(st t).ls=[.bool b]):a.eval (.tmp t)=.bool b:=by
 obtain⟨W,u⟩:=u;have r:=u.slots t y;rw[z]at r;have r:W.cs t=[a.tmps.getD t undef]:=r;have H:=u.leaf t 0 (.bool b) (a.tmps.getD t undef) (by rw[I];rfl) (by rw[r];rfl);exact H
theorem sb (hV:ax V)(hT:TOk P T)(hΓ:∀ c∈Γ,bO P c)(a2:P.follows .mixedOrders=true){fx:List Nat}(a5:∀ x∈V.fixb,x.1∈fx){nt:Nat}{fix:List Nat}(a1:V.nt=nt)(a3:∀ x∈V.fixt,x.1∈fix)
  {L:List (Nat×List (Nat×List Coe))} {O:Nat}:∀ (c:Code),dO nt fix c=true->dp L fx c=true->∀ (st:St) (I:Ex->St->Option R) (r:R) (Q:Exit->Act->World->Prop),evK Γ T L O c st I=some r ->
   (∀ ex J,I ex J=some r->∀ a w,Rel P V J a w->Q (exOf ex) a w)->∀ a w,Rel P V st a w->c.wp P Q a w:=by
 intro c;induction c with
 |skip=>exact λ_ _ st I r Q h z a w u=>wp_skip (z .normal st h a w u)
 |region id a4 a9 =>
  intro hc hlp st I r Q h z a w u;simp only[dO,BX]at hc;have a0:∀ (i:Nat) (o:Oper),a4[i]?=some o->ln nt fix a4 o=true:=λi o hi=>hc o (by simpa using Cc hi)
  refine Bl hV hT hΓ a2 (λi o hi=>mr a1 a3 (a0 i o hi)) (λi o hi j a6 hg s hs=>?_) h (λJ H a w u=>z .normal J H a w u) u;have:=a0 i o hi;simp only[ln,hg,hs,BC]at this;rw[a1];simpa[CG]using this.2
 |seq x y Y Z =>
  intro hc hlp st I r Q h z a w u;simp only[dO,BC]at hc;simp only[dp,BC]at hlp;simp only[evK]at h;refine wp_seq (Y hc.1 hlp.1 st _ r _ h (λex J H a w u=>?_) a w u);cases ex with
  |normal=>exact Z hc.2 hlp.2 J I r Q H z a w u
  |exit id=>exact z (.exit id) J H a w u
  |ret=>exact z .ret J H a w u
 |cond t x y Y Z =>
  intro hc hlp st I r Q h z a w u;simp only[dO,BC]at hc;simp only[dp,BC]at hlp;simp only[evK]at h;unfold zk at h;split at h
  ·rename_i t;split at h
   ·rename_i b H h2;have hv:=zd u (Co (by have:=hc.1.1;simp only[wC,CG]at this;rw[a1];exact this) hV.nt) H h2;cases b with
    |true =>
     simp only[cond_true]at h;rw[pf H h2]at h;exact wp_cond_true hv (Y hc.1.2 hlp.1 st I r Q h z a w u)
    |false =>
     simp only[cond_false]at h;rw[pf H h2]at h;exact wp_cond_false hv (Z hc.2 hlp.2 st I r Q h z a w u)
   ·cases h
  ·rename_i b;cases b with
   |true=>exact wp_cond_true rfl (Y hc.1.2 hlp.1 st I r Q h z a w u)
   |false=>exact wp_cond_false rfl (Z hc.2 hlp.2 st I r Q h z a w u)
  ·cases h
 |block id c ih =>
  intro hc hlp st I r Q h z a w u;simp only[dO]at hc;simp only[dp]at hlp;simp only[evK]at h;refine wp_block (ih hc hlp st _ r _ h (λex J H a w u=>?_) a w u);cases ex with
  |normal=>exact z .normal J H a w u
  |exit M =>
   simp only[sg]at H;show if M=id then Q .normal a w else Q (.exit M) a w
   by_cases e:M=id
   ·rw[if_pos e];subst e;simp only[Nat.beq_refl,cond_true]at H;exact z .normal J H a w u
   ·rw[if_neg e];have hb:BJ M id=false:=by
     cases hb:BJ M id with
     |false=>rfl
     |true=>exact absurd (BH hb) e
    rw[hb]at H;exact z (.exit M) J H a w u
  |ret=>exact z .ret J H a w u
 |loop c ih =>
  intro hc hlp st I r Q h z a w u;simp only[dO]at hc;simp only[dp,BC,BX]at hlp;simp only[evK]at h;have X:∀ x∈V.fixb,x.1∈(lm L (eN c)).map (·.1):=λx hx=>by
   obtain⟨r,u,he⟩:=CK.1 (hlp.1 x.1 (a5 x hx));exact BL.2 ⟨r,u,BH he⟩
  refine tJ (λn a w=>∃ st,aV (lm L (eN c)) (evK Γ T L O c) n st I=some r/\Rel P V st a w) ⟨O,_,h,va hV u _ X⟩ ?_ ?_
  ·rintro a w ⟨st,H,_⟩;cases H
  ·rintro n a w ⟨st,H,u⟩;simp only[aV]at H;refine ih hc hlp.2 st _ r _ H (λex J h2 a w u=>?_) a w u;cases ex with
   |normal=>exact⟨_,h2,va hV u _ X⟩
   |exit id=>exact z (.exit id) J h2 a w u
   |ret=>exact z .ret J h2 a w u
 |exit id=>exact λ_ _ st I r Q h z a w u=>wp_exit (z (.exit id) st h a w u)
 |ret=>exact λ_ _ st I r Q h z a w u=>wp_ret (z .ret st h a w u)
 |_=>intro _ _ st I r Q h;simp[evK]at h
end
section
variable {P:Program} {Γ:List Ctr} {T:TypeId->TI} {R:Type} {w:World} {ro pr:Nat->Prop}
theorem iY {G:Nat->Prop}{p:Bool}:∀ {b:Ty} {h:Option Nat} {pos:Nat} {x:b.den} {cs:List Value} {bs:List Nat},Mx w G b h pos x cs bs->bs.Nodup ->
  ∃ a4:Nat->List Nat,
   (∀ (V:Env) (W:Wit) (st:St),(∀ k,G k->gd V W p k)->∀ (j:Nat) (l:Leaf) (u:Value),h≠some (pos+j)->(aq p b x)[j]?=some l->cs[j]?=some u->aK P V W st w (a4 j) l u) /\
   (∀ (j:Nat) (l:Leaf),h≠some (pos+j)->(aq p b x)[j]?=some l->ao l->∀ k∈a4 j,k∈bs) /\
   (∀ (j J:Nat) (l l':Leaf),h≠some (pos+j)->h≠some (pos+J)->(aq p b x)[j]?=some l->ao l->(aq p b x)[J]?=some l'->ao l'->∀ k,k∈a4 j->k∈a4 J->j=J)
 |.int k,_,_,x,cs,bs,H,_=>by
  obtain⟨rfl,rfl⟩:=H;exact⟨λ_=>[],λV W st _ j l u _ y X=>by cases j with|zero=>simp[aq]at y X;subst y;subst X;rfl|succ j=>simp[aq]at y,λj l _ y _ k r=>by simp at r,λj J l l' _ _ _ _ _ _ k r=>by simp at r⟩
 |.bool,_,_,x,cs,bs,H,_=>by
  obtain⟨rfl,rfl⟩:=H;exact⟨λ_=>[],λV W st _ j l u _ y X=>by cases j with|zero=>simp[aq]at y X;subst y;subst X;rfl|succ j=>simp[aq]at y,λj l _ y _ k r=>by simp at r,λj J l l' _ _ _ _ _ _ k r=>by simp at r⟩
 |.str,_,_,x,cs,bs,H,_=>by
  obtain⟨rfl,rfl⟩:=H;exact⟨λ_=>[],λV W st _ j l u _ y X=>by cases j with|zero=>simp[aq]at y X;subst y;subst X;rfl|succ j=>simp[aq]at y,λj l _ y _ k r=>by simp at r,λj J l l' _ _ _ _ _ _ k r=>by simp at r⟩
 |.unit,_,_,x,cs,bs,H,_=>by
  obtain⟨rfl,rfl⟩:=H;exact⟨λ_=>[],λV W st _ j l u _ y X=>by simp[aq]at y,λj l _ y _ k r=>by simp at r,λj J l l' _ _ _ _ _ _ k r=>by simp at r⟩
 |.hdr,_,_,x,cs,bs,H,_=>by
  obtain⟨⟨A,a9,rfl⟩,rfl⟩:=H;exact⟨λ_=>[],λV W st _ j l u _ y X=>by cases j with|zero=>simp[aq]at y X;subst y;subst X;exact⟨A,a9,rfl⟩|succ j=>simp[aq]at y,λj l _ y _ k r=>by simp at r,λj J l l' _ _ _ _ _ _ k r=>by simp at r⟩
 |.pair b c,h,pos,x,cs,bs,⟨c1,c2,b1,b2,e1,e2,y,X⟩,Y=>by
  subst e1;subst e2;rw[CB]at Y;obtain⟨d1,f2,f3,f4⟩:=iY y Y.1;obtain⟨d2,g2,g3,g4⟩:=iY X Y.2.1;have b0:=cH p b x.1;have ad:=y.len;have I:∀ (j:Nat) (l:Leaf),(aq p b x.1++aq p c x.2)[j]?=some l->(j<b.cells/\(aq p b x.1)[j]?=some l)\/(b.cells<=j/\(aq p c x.2)[j-b.cells]?=some l):=by
   intro j l z;by_cases M:j<b.cells
   ·rw[Bv (by omega)]at z;exact .inl ⟨M,z⟩
   ·rw[BZ (by omega),b0]at z;exact .inr ⟨by omega,z⟩
  have a0:∀ j,b.cells<=j->h≠some (pos+j)->h≠some (pos+b.cells+(j-b.cells)):=λj z hh=>by rwa [show pos+b.cells+(j-b.cells)=pos+j by omega]
  refine⟨λj=>if j<b.cells then d1 j else d2 (j-b.cells),λV W st hG j l u hh z hu=>?_,λj l hh z ho k r=>?_,λj J l l' hh a2 z ho Z a3 k r O=>?_⟩
  ·rcases I j l z with ⟨M,z⟩|⟨a1,z⟩
   ·rw[Bv (by omega)]at hu;simp only[if_pos M];exact f2 V W st hG j l u hh z hu
   ·rw[BZ (by omega),ad]at hu;simp only[if_neg (show ¬ j<b.cells by omega)];exact g2 V W st hG _ l u (a0 j a1 hh) z hu
  ·rcases I j l z with ⟨M,z⟩|⟨a1,z⟩
   ·simp only[if_pos M]at r;exact BD _ (f3 j l hh z ho k r)
   ·simp only[if_neg (show ¬ j<b.cells by omega)]at r;exact BE _ (g3 _ l (a0 j a1 hh) z ho k r)
  ·rcases I j l z with ⟨M,z⟩|⟨a1,z⟩ <;> rcases I J l' Z with ⟨a5,Z⟩|⟨a6,Z⟩
   ·simp only[if_pos M]at r;simp only[if_pos a5]at O;exact f4 j J l l' hh a2 z ho Z a3 k r O
   ·simp only[if_pos M]at r;simp only[if_neg (show ¬ J<b.cells by omega)]at O;exact absurd rfl (Y.2.2 k (f3 j l hh z ho k r) k (g3 _ l' (a0 J a6 a2) Z a3 k O))
   ·simp only[if_neg (show ¬ j<b.cells by omega)]at r;simp only[if_pos a5]at O;exact absurd rfl (Y.2.2 k (f3 J l' a2 Z a3 k O) k (g3 _ l (a0 j a1 hh) z ho k r))
   ·simp only[if_neg (show ¬ j<b.cells by omega)]at r;simp only[if_neg (show ¬ J<b.cells by omega)]at O;have:=g4 _ _ l l' (a0 j a1 hh) (a0 J a6 a2) z ho Z a3 k r O;omega
 |.list m E e,h,pos,xs,cs,bs,H,Y=>by
  cases m with
  |false =>
   rw[cn]at H;obtain⟨rfl,A,a9,rfl,X,h3⟩:=H;refine⟨λ_=>[],λV W st hG j l u _ y h4=>?_,λj l _ y _ k r=>by simp at r,λj J l l' _ _ _ _ _ _ k r=>by simp at r⟩;cases j with
   |zero =>
    simp[aq]at y h4;subst y;subst h4;exact Rd.mono hG (⟨A,a9,rfl,X,h3⟩:Rd w G (.list false E e) xs _)
   |succ j=>simp[aq]at y
  |true =>
   refine⟨λ_=>bs,λV W st hG j l u hh y h4=>?_,λj l _ y _ k r=>r,λj J l l' _ _ y _ h3 _ k _ _=>?_⟩
   ·cases j with
    |zero =>
     rw[Nat.add_zero]at hh;rw[bH hh]at H;obtain⟨v,rfl,hO⟩:=H;simp[aq]at y h4;subst y;subst h4;exact⟨Y,OwB.shy (hO.carry hG (λ_ _=>rfl) (λ_ _=>rfl))⟩
    |succ j=>simp[aq]at y
   ·have h7:j<1:=by simpa[aq]using (BK.1 y).1
    have h8:J<1:=by simpa[aq]using (BK.1 h3).1
    omega
theorem mt {p:Bool}{off:Nat}:∀ {a:Ty} {pos:Nat} {x:a.den} {E:TypeId} {e:Ty} {xs:List e.den},bc off a pos x=some ⟨E,e,xs⟩->(aq p a x)[off-pos]?=some (.own (p&&e.shy) none E e xs)
 |.pair a b,pos,x,E,e,xs,h=>by
  have H:=cH p a x.1;simp only[bc]at h;simp only[aq];split at h
  ·rename_i u z;simp only[BA]at h;subst h;have y:=gy z;rw[Bv (by omega)];exact mt z
  ·have y:=gy h;rw[BZ (by omega),H,show off-pos-a.cells=off-(pos+a.cells) by omega];exact mt h
 |.list m M I,pos,J,E,e,xs,h=>by
  simp only[bc]at h;cases r:m&&BJ pos off with
  |false=>simp[r]at h
  |true =>
   rw[r]at h;simp only[cond_true,BA,Sigma.mk.injEq]at h;obtain⟨rfl,h⟩:=h;simp only[BC]at r;obtain⟨rfl,r⟩:=r;have r:=BH r;subst r;rw[heq_eq_eq,Sigma.mk.injEq]at h;obtain⟨rfl,h⟩:=h;rw[heq_eq_eq]at h;subst h;simp[aq]
 |.int _,_,_,_,_,_,h=>by simp[bc]at h
 |.bool,_,_,_,_,_,h=>by simp[bc]at h
 |.str,_,_,_,_,_,h=>by simp[bc]at h
 |.unit,_,_,_,_,_,h=>by simp[bc]at h
 |.hdr,_,_,_,_,_,h=>by simp[bc]at h
theorem tK (V:Env)(W:Wit)(H:V.ro0=ro)(r:V.prot=pr):∀ {cs:List (Bool×Ty)} {x:lG cs} {us:List Value},jz w ro pr cs x us->us.length=(jN true cs x).length /\
  ∀ (i:Nat) (c:Bool×Bool×(a:Ty)×a.den) (u:Value),(jN true cs x)[i]?=some c->us[i]?=some u->iM V W w c u
 |[],_,us,h=>by
  have h:us=[]:=h;subst h;exact⟨rfl,λi c u z _=>by simp[jN]at z⟩
 |c::cs,x,us,⟨u,a0,e,z,h2⟩=>by
  subst e;obtain⟨i1,i2⟩:=tK V W H r h2;refine⟨by simp[jN,i1],λi c' u' Z Y=>?_⟩;cases i with
  |succ i=>exact i2 i c' u' (by simpa[jN]using Z) (by simpa using Y)
  |zero =>
   simp[jN]at Z Y;subst Z;subst Y;have hG:∀ k,ro k->gd V W true k:=λk hk=>.inr ⟨rfl,by rw[H];exact hk⟩
   unfold iM;unfold gQ at z;split at z
   ·rename_i I;simp only[I,if_true];obtain⟨b,ob,g,o,J,O,M,y,hg,X,hc⟩:=z;exact⟨b,ob,g,o,J,O,.inr (by rw[r];exact M),y,.inr (by rw[r];exact hg),X.mono hG,hc⟩
   ·rename_i I;have I:c.1=false:=by simpa using I
    simp only[I,CO,if_false];obtain⟨g,o,J,O,hg,X,hc⟩:=z;exact⟨g,o,J,by rw[O];rfl,.inr (by rw[r];exact hg),X.mono hG,hc⟩
structure Ent where
 r:Nat
 c:bS
 cs:List Value
 bs:Nat->List Nat
 bl:List Nat
 g:Nat
structure qh (P:Program) (w:World) (ro pr:Nat->Prop) (bx:List (Nat×Nat)) (e:Ent):Prop where
 len:e.c.ls.length=e.cs.length
 one:∀ u∈e.cs,u.oneCell'=true
 leaf:∀ (V:Env) (W:Wit) (st:St),V.w0=w->V.ro0=ro->V.prot=pr->(∀ z∈bx,B0<=z.1/\(st z.1).sh=.agg/\W.β z.1=z.2)->∀ (j:Nat) (l:Leaf) (u:Value),e.c.ls[j]?=some l->e.cs[j]?=some u->aK P V W st w (e.bs j) l u
 own:∀ (j:Nat) (l:Leaf),e.c.ls[j]?=some l->ao l->∀ k∈e.bs j,k∈e.bl
 sep:∀ (j j':Nat) (l l':Leaf),e.c.ls[j]?=some l->ao l->e.c.ls[j']?=some l'->ao l'->∀ k,k∈e.bs j->k∈e.bs j'->j=j'
 box:B0<=e.r->e.c.sh=.agg/\e.g∈e.bl/\(∀ (j:Nat) (l:Leaf),e.c.ls[j]?=some l->ao l->e.g∉e.bs j)/\(∃ E,w.heap[e.g]?=some (.cells e.cs.toArray E (0,0)))/\(e.r,e.g)∈bx
theorem qh.mono {u r:List (Nat×Nat)}{e:Ent}(h:qh P w ro pr u e)(y:∀ z∈u,z∈r):qh P w ro pr r e :=
  { len:=h.len,one:=h.one,own:=h.own,sep:=h.sep
    leaf:=λV W H J h2 h3 Z=>h.leaf V W H J h2 h3 (λz hz=>Z z (y z hz))
    box:=λY=>by obtain⟨X,M,O,I,q5⟩:=h.box Y;exact⟨X,M,O,I,y _ q5⟩ }
structure ww (P:Program) (w:World) (ro pr:Nat->Prop) (t:Nat) (pk:PK) (v:Value) (b:List Nat) (bx:List (Nat×Nat)) (es:List Ent):Prop where
 bl:es.flatMap (·.bl)=b
 ok:∀ e∈es,qh P w ro pr bx e
 at_:∀ e∈es,e.r=t\/e.r=B0+t
 nod:(es.map (·.r)).Nodup
 slot:∃ e∈es,e.r=t/\ea e.c.sh v e.cs
 bxs:∀ z∈bx,z.1=B0+t/\(∃ e∈es,e.r=B0+t/\e.g=z.2)
theorem tL (t n:Nat){a:Ty}{x:a.den}{v:Value}{cs:List Value}{b:List Nat}(I:b.Nodup)(h1:db a.isAgg v cs)(M:Mx w ro a none 0 x cs b)(a0:t<B0) :
    ∃ Z,ww P w ro pr t (.own a) v b [] Z/\[((t,⟨n,bf a.isAgg,aq true a x⟩):Nat×bS)]=Z.map (λe=>(e.r,e.c)):=by
  obtain⟨O,m1,m2,m3⟩:=iY (P:=P) (p:=true) M I;have H:∀ j,(none:Option Nat)≠some (0+j):=λj=>by simp
  refine⟨[⟨t,⟨n,bf a.isAgg,aq true a x⟩,cs,O,b,0⟩],⟨by simp,?_,by simp,by simp,⟨_,BV _,rfl,j0 h1⟩,by simp⟩,rfl⟩;intro e X;simp only[B4]at X;subst X
  exact { len := by show (aq true a x).length = _; rw [cH, M.len]
          one:=M.one
          leaf:=λV W st _ J _ _ j l u z y=>m1 V W st (λk hk=>.inr ⟨rfl,by rw[J];exact hk⟩) j l u (H j) z y
          own:=λj l z y=>m2 j l (H j) z y
          sep:=λj Y l l' z y h5 h6=>m3 j Y l l' (H j) (H Y) z y h5 h6
          box:=λhr=>absurd hr (by show ¬ B0<=t;omega) }
theorem nV (t:Nat){l:Leaf}{v:Value}{pk:PK}(a0:t<B0)(J:¬ ao l)(h1:v.oneCell'=true)(z:∀ (V:Env) (W:Wit) (st:St),V.w0=w->V.ro0=ro->V.prot=pr->aK P V W st w [] l v) :
    ∃ es,ww P w ro pr t pk v [] [] es/\[((t,⟨0,.one,[l]⟩):Nat×bS)]=es.map (λe=>(e.r,e.c)):=by
  refine⟨[⟨t,⟨0,.one,[l]⟩,[v],λ_=>[],[],0⟩],⟨by simp,?_,by simp,by simp,⟨_,BV _,rfl,rfl⟩,by simp⟩,rfl⟩;intro e he;simp only[B4]at he;subst he;have Y:∀ (j:Nat) (y:Leaf),[l][j]?=some y->j=0/\y=l:=λj y M=>by
    cases j with
    |zero=>simp at M;exact⟨rfl,M.symm⟩
    |succ j=>simp at M
  exact { len := rfl
          one:=λu Z=>by simp at Z;subst Z;exact h1
          leaf:=λV W st hw X O _ j y u I H=>by
            obtain⟨rfl,rfl⟩:=Y j y I;simp at H;subst H;exact z V W st hw X O
          own:=λj y I H=>by obtain⟨_,rfl⟩:=Y j y I;exact absurd H J
          sep:=λj j' l1 l2 I H=>by obtain⟨_,rfl⟩:=Y j l1 I;exact absurd H J
          box:=λhr=>absurd hr (by show ¬ B0<=t;omega) }
def tM:Value->Nat
 |.pointer (some a)=>a.block
 |_=>0
def d7 (t:Nat):List PK->List Value->List (Nat×Nat)
 |.iop _::r,v::u=>(B0+t,tM v)::d7 (t+1) r u
 |_::r,_::u=>d7 (t+1) r u
 |_,_=>[]
def d8 (t:Nat):List PK->List Value->List (Nat×Value)
 |.io _::r,v::u=>(t,v)::d8 (t+1) r u
 |.iop _::r,v::u=>(t,v)::d8 (t+1) r u
 |_::r,_::u=>d8 (t+1) r u
 |_,_=>[]
def PK.bx (t:Nat)(v:Value):PK->List (Nat×Nat)
 |.iop _=>[(B0+t,tM v)]
 |_=>[]
theorem Bm (t:Nat)(a1:t<B0){pk:PK}{ps:List PK}{x:ab (pk::ps)}{v:Value}{b:List Nat}(a0:b.Nodup)(h:nS P w ro pr pk x.1 v b) :
    ∃ es,ww P w ro pr t pk v b (pk.bx t v) es/\dj t (pk::ps) x=es.map (λe=>(e.r,e.c))++dj (t+1) ps x.2:=by
  cases pk with
  |rd a =>
    obtain⟨rfl,cs,h1,h2⟩:=h;refine⟨[⟨t,⟨0,bf a.isAgg,cI true a x.1⟩,cs,λ_=>[],[],0⟩],⟨by simp,?_,by simp,by simp,⟨_,BV _,rfl,j0 h1⟩,by simp[PK.bx]⟩,rfl⟩;intro e he;simp only[B4]at he;subst he;have ad:∀ (V:Env) (W:Wit) (st:St),V.ro0=ro->aC P V W st w (cI true a x.1) cs:=λV W st I=>eT (G:=ro) (λk J=>.inr ⟨rfl,by rw[I];exact J⟩) h2
    have b2:∀ (j:Nat) (l:Leaf),(cI true a x.1)[j]?=some l->¬ ao l:=λj l M=>by
      have hl:=gL true a x.1;have hc:=h2.len;have c1:=(BK.1 M).1;exact ((ad ⟨w,ro,[],0,[],[]⟩ ⟨λ_=>0,λ_=>[],λ_ _=>[],λ_=>False⟩ (λ_=>bS.none) rfl).at_ j l _ M (BR (by omega))).2.1
    exact { len := by show (cI true a x.1).length = _; rw [gL, h2.len]
            one:=h2.one
            leaf:=λV W st _ I _ _ j l u y H=>((ad V W st I).at_ j l u y H).1
            own:=λj l y H=>absurd H (b2 j l y)
            sep:=λj j' l l' y H=>absurd H (b2 j l y)
            box:=λhr=>absurd hr (by show ¬ B0<=t;omega) }
  |own a =>
    obtain⟨cs,h1,h2⟩:=h;obtain⟨es,y,H⟩:=tL (P:=P) (pr:=pr) t 0 a0 h1 h2 a1;exact⟨es,⟨y.bl,y.ok,y.at_,y.nod,y.slot,y.bxs⟩,by rw[<- H];rfl⟩
  |io a =>
    obtain⟨cs,h1,h2⟩:=h;obtain⟨es,y,H⟩:=tL (P:=P) (pr:=pr) t 7 a0 h1 h2 a1;exact⟨es,⟨y.bl,y.ok,y.at_,y.nod,y.slot,y.bxs⟩,by rw[<- H];rfl⟩
  |rref a =>
    obtain⟨rfl,h⟩:=h;unfold gQ at h;rw[if_neg (by simp)]at h;obtain⟨g,o,c,hv,hg,hr,hc⟩:=h;subst hv;obtain⟨es,y,H⟩:=nV (P:=P) (w:=w) (ro:=ro) (pr:=pr) t (pk:=.rref a) (l:=.rp true a x.1 0) (v:=.pointer (some ⟨g,o,none⟩)) a1 id rfl (λV W st hw I O=>⟨g,o,c,rfl,.inr (by rw[O];exact hg),hr.mono (λk J=>.inr ⟨rfl,by rw[I];exact J⟩),hc⟩);exact⟨es,y,by rw[<- H];rfl⟩
  |rref2 a =>
    obtain⟨rfl,h⟩:=h;unfold gQ at h;rw[if_pos rfl]at h;obtain⟨b,ob,g,o,c,hv,hb,a5,hg,hr,hc⟩:=h;subst hv;obtain⟨es,y,H⟩:=nV (P:=P) (w:=w) (ro:=ro) (pr:=pr) t (pk:=.rref2 a) (l:=.rpp true a x.1) (v:=.pointer (some ⟨b,ob,none⟩)) a1 id rfl (λV W st hw I O=>⟨b,ob,g,o,c,rfl,.inr (by rw[O];exact hb),a5,.inr (by rw[O];exact hg),hr.mono (λk J=>.inr ⟨rfl,by rw[I];exact J⟩),hc⟩);exact⟨es,y,by rw[<- H];rfl⟩
  |fn As B =>
    obtain⟨rfl,h⟩:=h;have bn:v.oneCell'=true:=by
      obtain⟨f,c0,e,_⟩:=h;rw[e];rfl
    obtain⟨es,y,H⟩:=nV (P:=P) (w:=w) (ro:=ro) (pr:=pr) t (pk:=.fn As B) (l:=.fn As B x.1) (v:=v) a1 id bn (λV W st hw I O=>by
      show ic P V.w0 V.prot As B x.1 v;rw[hw,O];exact h)
    exact⟨es,y,by rw[<- H];rfl⟩
  |clo f cs =>
    obtain⟨rfl,us,e,h⟩:=h;subst e;obtain⟨es,y,H⟩:=nV (P:=P) (w:=w) (ro:=ro) (pr:=pr) t (pk:=.clo f cs) (l:=.clr f (jN true cs x.1)) (v:=.func (.func f) #[] us.toArray) a1 id rfl (λV W st hw I O=>by
      obtain⟨i1,i2⟩:=tK V W I O h;exact⟨us,rfl,i1,i2⟩)
    exact⟨es,y,by rw[<- H];rfl⟩
  |iop a =>
    obtain⟨g,c,E,b0,hv,hg,hm,rfl⟩:=h;subst hv;rw[B5]at a0;obtain⟨a6,m1,m2,m3⟩:=iY (P:=P) (p:=true) hm a0.2;have hn:∀ j,(none:Option Nat)≠some (0+j):=λj=>by simp
    have Z:t≠B0+t:=by simp[B0]
    refine⟨[⟨t,⟨0,.one,[.bp (B0+t) 0]⟩,[.pointer (some ⟨g,0,none⟩)],λ_=>[],[],0⟩,⟨B0+t,⟨0,.agg,aq true a x.1⟩,c,a6,g::b0,g⟩],
      ⟨by simp,?_,λe he=>by simp at he;rcases he with rfl|rfl <;> simp,by rw[BY,BY,C5,B5];exact⟨by simpa using Z,by simp⟩,⟨_,BG ..,rfl,rfl⟩,λz hz=>?_⟩,rfl⟩
    · intro e he
      simp only[BO,List.not_mem_nil,or_false]at he;rcases he with rfl|rfl
      · have h0:∀ (j:Nat) (l':Leaf),[Leaf.bp (B0+t) 0][j]?=some l'->j=0/\l'=.bp (B0+t) 0:=λj l' M=>by
          cases j with
          |zero=>simp at M;exact⟨rfl,M.symm⟩
          |succ j=>simp at M
        exact { len := rfl
                one:=λu hu=>by simp at hu;subst hu;rfl
                leaf:=λV W st hw I O hb j l' u y H=>by
                  obtain⟨rfl,rfl⟩:=h0 j l' y;simp at H;subst H;obtain⟨q1,q2,q3⟩:=hb (B0+t,g) (BV _);exact⟨q1,q2,by rw[q3]⟩
                own:=λj l' y H=>by obtain⟨_,rfl⟩:=h0 j l' y;exact H.elim
                sep:=λj j' l1 l2 y H=>by obtain⟨_,rfl⟩:=h0 j l1 y;exact H.elim
                box:=λhr=>absurd hr (by show ¬ B0<=t;omega) }
      · exact { len := by show (aq true a x.1).length = _; rw [cH, hm.len]
                one:=hm.one
                leaf:=λV W st _ I _ _ j l u y H=>m1 V W st (λk J=>.inr ⟨rfl,by rw[I];exact J⟩) j l u (hn j) y H
                own:=λj l y H k J=>BF _ (m2 j l (hn j) y H k J)
                sep:=λj j' l l' y H h5 h6=>m3 j j' l l' (hn j) (hn j') y H h5 h6
                box:=λ_=>⟨rfl,BG ..,λj l y H J=>a0.1 (m2 j l (hn j) y H g J),⟨E,hg⟩,BV _⟩ }
    · simp only[PK.bx,B4]at hz
      subst hz;exact⟨rfl,_,BF _ (BV _),rfl,rfl⟩
  |hol a c off =>
    obtain⟨cs,u,b0,b1,E,e,xs,h1,h2,y,H,h5,h6⟩:=h;have a2:=br.1 a0;have b4:b0.Nodup:=br.2 λk=>by have:=a2 k;have:=h6 k;omega
    have b9:b1.Nodup:=br.2 λk=>by have:=a2 k;have:=h6 k;omega
    have a4:∀ k,k∈b0->k∉b1:=λk J Y=>by
      have:=a2 k;have:=h6 k;have:=BW.2 J;have:=BW.2 Y;omega
    have b5:∀ k∈b0,k∈b:=λk J=>BW.1 (by have:=h6 k;have:=BW.2 J;omega)
    have ba:∀ k∈b1,k∈b:=λk J=>BW.1 (by have:=h6 k;have:=BW.2 J;omega)
    obtain⟨a6,m1,m2,m3⟩:=iY (P:=P) (p:=true) h2 b4;have Z:∀ j,j≠c->(some c:Option Nat)≠some (0+j):=λj M=>by simp;omega
    have a9:=mt (p:=true) H;rw[Nat.sub_zero]at a9;have bb:(aq true a x.1.1).getD c .dead=.own (true&&e.shy) none E e xs:=by rw[BP,a9];rfl
    refine⟨[⟨t,⟨0,bf a.isAgg,aS (aq true a x.1.1) c (.own (true&&e.shy) (some (x.1.2,off)) E e xs)⟩,cs,λj=>if j=c then b1 else a6 j,b,0⟩],
      ⟨by simp,?_,by simp,by simp,⟨_,BV _,rfl,j0 h1⟩,by simp[PK.bx]⟩,?_⟩
    · intro en he
      simp only[B4]at he;subst he;have X:∀ (j:Nat) (l:Leaf),(aS (aq true a x.1.1) c (.own (true&&e.shy) (some (x.1.2,off)) E e xs))[j]?=some l->(j=c/\l=.own (true&&e.shy) (some (x.1.2,off)) E e xs)\/(j≠c/\(aq true a x.1.1)[j]?=some l):=by
        intro j l M;rcases aR _ _ _ _ _ M with ⟨q1,q2,_⟩|⟨q1,q2⟩
        · exact .inl ⟨q1,q2⟩
        · exact .inr ⟨q1,q2⟩
      exact { len := by show (aS (aq true a x.1.1) c _).length = _; simp only [aS, List.length_set]; rw [cH, h2.len]
              one:=h2.one
              leaf:=λV W st _ I _ _ j l u' h7 h8=>by
                have h8:cs[j]?=some u':=h8;rcases X j l h7 with ⟨rfl,rfl⟩|⟨M,h7⟩
                · rw[y]at h8
                  simp only[BA]at h8;subst h8;simp only[if_true];exact⟨b9,OwB.shy (p:=true) (h5.carry (λk J=>.inr ⟨rfl,by rw[I];exact J⟩) (λ_ _=>rfl) (λ_ _=>rfl))⟩
                · simp only[if_neg M]
                  exact m1 V W st (λk J=>.inr ⟨rfl,by rw[I];exact J⟩) j l u' (Z j M) h7 h8
              own:=λj l h7 h8 k J=>by
                rcases X j l h7 with ⟨rfl,rfl⟩|⟨M,h7⟩
                · simp only[if_true]at J;exact ba k J
                · simp only[if_neg M]at J;exact b5 k (m2 j l (Z j M) h7 h8 k J)
              sep:=λj j' l l' h7 h8 h9 b3 k J Y=>by
                rcases X j l h7 with ⟨rfl,rfl⟩|⟨M,h7⟩ <;> rcases X j' l' h9 with ⟨rfl,rfl⟩|⟨a3,h9⟩
                · rfl
                · simp only[if_true]at J;simp only[if_neg a3]at Y
                  exact absurd J (a4 k (m2 j' l' (Z j' a3) h9 b3 k Y))
                · simp only[if_neg M]at J;simp only[if_true]at Y
                  exact absurd Y (a4 k (m2 j l (Z j M) h7 h8 k J))
                · simp only[if_neg M]at J;simp only[if_neg a3]at Y
                  exact m3 j j' l l' (Z j M) (Z j' a3) h7 h8 h9 b3 k J Y
              box:=λhr=>absurd hr (by show ¬ B0<=t;omega) }
    · show (t,(⟨0,bf a.isAgg,aS (aq true a x.1.1) c (uz x.1.2 off ((aq true a x.1.1).getD c .dead))⟩:bS))::dj (t+1) ps x.2=_
      rw[bb];rfl
theorem tN:∀ {ps:List PK} {x:ab ps} {u:List Value} {r:List (List Nat)},c9 P w ro pr ps x u r->u.length=ps.length
 |[],_,_,_,h=>by rw[h.1];rfl
 |_::_,_,_,_,⟨_,_,_,_,e,_,_,h⟩=>by rw[e,CA,CA,tN h]
theorem vd:∀ (ps:List PK) (x:ab ps) (Z:List Value) (H:List (List Nat)) (t:Nat),c9 P w ro pr ps x Z H->H.flatten.Nodup->t+ps.length<=B0 ->
  ∃ Y:List Ent,dj t ps x=Y.map (λe=>(e.r,e.c))/\Y.flatMap (·.bl)=H.flatten/\(∀ e∈Y,qh P w ro pr (d7 t ps Z) e) /\
   (∀ e∈Y,(t<=e.r/\e.r<t+ps.length)\/(B0+t<=e.r/\e.r<B0+t+ps.length))/\(Y.map (·.r)).Nodup /\
   (∀ (i:Nat) (v:Value),Z[i]?=some v->∃ e∈Y,e.r=t+i/\ea e.c.sh v e.cs)/\(∀ z∈d7 t ps Z,∃ e∈Y,e.r=z.1/\e.g=z.2/\B0<=z.1)
 |[],x,Z,H,t,⟨e1,e2⟩,_,_=>by
  subst e1;subst e2;exact⟨[],rfl,rfl,by simp,by simp,by simp,λi v h=>by simp at h,by simp[d7]⟩
 |pk::ps,x,Z,H,t,⟨v,M,b,a0,e1,e2,h1,h2⟩,J,hB=>by
  subst e1;subst e2;rw[BQ,CB]at J;simp only[CA]at hB;obtain⟨a5,X,p2⟩:=Bm t (by omega) (ps:=ps) (x:=x) J.1 h1;obtain⟨a4,q1,q2,q3,q4,q5,q6,q7⟩:=vd ps x.2 M a0 (t+1) h2 J.2.1 (by omega);have a1:d7 t (pk::ps) (v::M)=pk.bx t v++d7 (t+1) ps M:=by cases pk <;> rfl
  refine⟨a5++a4,by rw[p2,q1,CM],by rw[List.flatMap_append,X.bl,q2,BQ],λe y=>?_,λe y=>?_,?_,λi u hi=>?_,λz I=>?_⟩
  ·rw[a1];rcases BB.1 y with y|y
   ·exact (X.ok e y).mono (λz I=>BD _ I)
   ·exact (q3 e y).mono (λz I=>BE _ I)
  ·simp only[CA];rcases BB.1 y with y|y
   ·rcases X.at_ e y with h|h <;> omega
   ·rcases q4 e y with h|h <;> omega
  ·rw[CM,CB];refine⟨X.nod,q5,λa ha b' a3 e0=>?_⟩;subst e0;obtain⟨e,y,rfl⟩:=BL.1 ha;obtain⟨e',a2,e1⟩:=BL.1 a3;rcases X.at_ e y with h|h <;> rcases q4 e' a2 with h'|h' <;> omega
  ·cases i with
   |zero =>
    simp at hi;subst hi;obtain⟨e,y,h3,O⟩:=X.slot;exact⟨e,BD _ y,by omega,O⟩
   |succ i =>
    obtain⟨e,y,h3,O⟩:=q6 i u (by simpa using hi);exact⟨e,BE _ y,by omega,O⟩
  ·rw[a1]at I;rcases BB.1 I with I|I
   ·obtain⟨h3,e,y,O,h5⟩:=X.bxs z I;exact⟨e,BD _ y,by rw[O,h3],h5,by rw[h3];exact Nat.le_add_right _ _⟩
   ·obtain⟨e,y,O,h5,h6⟩:=q7 z I;exact⟨e,BE _ y,O,h5,h6⟩
def fZ (w:World)(ro:Nat->Prop)(ps:List PK)(u:List Value)(r:List (List Nat))(nt:Nat):Env:=⟨w,ro,r.flatten,nt,d7 0 ps u,d8 0 ps u⟩
theorem nW:∀ {J:List Ent},(J.flatMap (·.bl)).Nodup->∀ e∈J,∀ z∈J,∀ k,k∈e.bl->k∈z.bl->e=z
 |[],_,e,O,_,_,_,_,_=>by simp at O
 |x::J,r,e,O,z,M,k,I,u=>by
  rw[List.flatMap_cons,CB]at r;rcases BO.1 O with y|y <;> rcases BO.1 M with H|H
  ·rw[y,H]
  ·rw[y]at I;exact absurd rfl (r.2.2 k I k (BT.2 ⟨z,H,u⟩))
  ·rw[H]at u;exact absurd rfl (r.2.2 k u k (BT.2 ⟨e,y,I⟩))
  ·exact nW r.2.1 e y z H k I u
theorem xT:∀ {I:List Ent},(I.map (·.r)).Nodup->∀ e∈I,∀ z∈I,e.r=z.r->e=z
 |[],_,e,M,_,_,_=>by simp at M
 |x::I,u,e,M,z,J,O=>by
  rw[BY,B5]at u;rcases BO.1 M with y|y <;> rcases BO.1 J with H|H
  ·rw[y,H]
  ·exact absurd (BL.2 ⟨z,H,by rw[<- O,y]⟩) u.1
  ·exact absurd (BL.2 ⟨e,y,by rw[O,H]⟩) u.1
  ·exact xT u.2 e y z H O
theorem rF:∀ (u:List Ent) (q:Nat),(av (u.map λe=>(e.r,e.c)) q=bS.none/\u.find? (λe=>e.r==q)=none)\/∃ e∈u,e.r=q/\u.find? (λe=>e.r==q)=some e/\av (u.map λe=>(e.r,e.c)) q=e.c
 |[],q=>.inl ⟨rfl,rfl⟩
 |e::u,q=>by
  by_cases h:e.r=q
  ·refine .inr ⟨e,BG ..,h,by simp[h],?_⟩;simp[av,ac,h]
  ·have y:BJ q e.r=false:=by
    cases y:BJ q e.r with
    |false=>rfl
    |true=>exact absurd (BH y).symm h
   have H:av ((e::u).map λe=>(e.r,e.c)) q=av (u.map λe=>(e.r,e.c)) q:=by simp[av,ac,y]
   have X:(e::u).find? (λe=>e.r==q)=u.find? (λe=>e.r==q):=by simp[h]
   rw[H,X];rcases rF u q with z|⟨I,z,O,M,J⟩
   ·exact .inl z
   ·exact .inr ⟨I,BF _ z,O,M,J⟩
theorem ve:∀ {ps:List PK} {r:List Value} {t:Nat} {z:Nat×Value},z∈d8 t ps r->∃ i,z.1=t+i/\r[i]?=some z.2
 |[],_,_,_,h=>by simp[d8]at h
 |u::ps,[],_,_,h=>by cases u <;> simp[d8]at h
 |u::ps,v::r,t,z,h=>by
  have:z=(t,v)\/z∈d8 (t+1) ps r:=by cases u <;> simp[d8]at h <;> first|exact h|exact .inr h
  rcases this with rfl|h
  ·exact⟨0,rfl,rfl⟩
  ·obtain⟨i,H,y⟩:=ve h;exact⟨i+1,by omega,by simpa using y⟩
theorem vf {ps:List PK}{x:ab ps}{M:List Value}{J:List (List Nat)}{nt:Nat}(h:c9 P w ro (λk=>k<w.heap.size/\k∉J.flatten) ps x M J)(a2:J.flatten.Nodup)
  (c5:ps.length<=nt) (hB:nt<=GH):Rel P (fZ w ro ps M J nt) (av (dj 0 ps x)) { tmps:=M.toArray++B6 (nt-M.length) undef,defers:=[] } w:=by
 have c3:=tN h;have c4:GH<=B0:=by decide
 obtain⟨X,q1,q2,q3,q4,q5,q6,q7⟩:=vd ps x M J 0 h a2 (by omega);rw[q1];have b4:=rF X;have a5:∀ e∈X,∀ H∈X,e.r=H.r->e=H:=by
  intro e he H b5 hr;exact xT q5 e he H b5 hr
 rw[<- q2]at a2;have a1:∀ e∈X,∀ k∈e.bl,k∈J.flatten:=λe he k Z=>by rw[<- q2];exact BT.2 ⟨e,he,Z⟩
 have hE:∀ q,(av (X.map λe=>(e.r,e.c)) q=bS.none/\X.find? (λe=>e.r==q)=none)\/∃ e∈X,e.r=q/\X.find? (λe=>e.r==q)=some e/\av (X.map λe=>(e.r,e.c)) q=e.c:=b4;have a0:∀ q,live (av (X.map λe=>(e.r,e.c))) q->∃ e∈X,e.r=q/\B0<=e.r/\X.find? (λe=>e.r==q)=some e:=by
  rintro q ⟨h1,h2⟩;rcases hE q with ⟨I,_⟩|⟨e,I,y,h5,O⟩
  ·rw[I]at h2;cases h2
  ·exact⟨e,I,y,by rw[y];exact h1,h5⟩
 let β:Nat->Nat:=λq=>match X.find? (λe=>e.r==q) with|some e=>e.g|none=>0
 let cs:Nat->List Value:=λq=>match X.find? (λe=>e.r==q) with|some e=>e.cs|none=>[]
 let bs:Nat->Nat->List Nat:=λq j=>match X.find? (λe=>e.r==q) with|some e=>e.bs j|none=>[]
 have a9:∀ z∈d7 0 ps M,B0<=z.1/\(av (X.map λe=>(e.r,e.c)) z.1).sh=.agg/\β z.1=z.2:=by
  intro z hz;obtain⟨e,he,h1,h2,I⟩:=q7 z hz;refine⟨I,?_⟩;rcases hE z.1 with ⟨_,y⟩|⟨H,y,h5,O,h7⟩
  ·exfalso;rw[Cp]at y;exact y e he (by simp[h1])
  ·have:H=e:=a5 H y e he (by rw[h5,h1]);subst this;rw[h7];exact⟨((q3 H he).box (by rw[h1];exact I)).1,by simp only[β,O];exact h2⟩
 refine⟨{ β:=β,cs:=cs,bs:=bs,nw:=λ_=>False },?_⟩;have bx:(fZ w ro ps M J nt).prot=λk=>k<w.heap.size/\k∉J.flatten:=rfl
 exact {
  nt:=by show (M.toArray++B6 (nt-M.length) undef).size=nt;simp;omega
  df:=rfl
  slots:=λt ht=>by
   show ea _ ((M.toArray++B6 (nt-M.length) undef).getD t undef) (cs t);by_cases hq:t<ps.length
   ·have hv:=BR (show t<M.length by omega);have:(M.toArray++B6 (nt-M.length) undef).getD t undef=M[t]:=by
     rw[BN,CR (by simp;omega)];simp[hv]
    rw[this];obtain⟨e,he,h1,h2⟩:=q6 t _ hv;rw[CE]at h1;rcases hE t with ⟨_,y⟩|⟨H,y,h5,O,h7⟩
    ·exfalso;rw[Cp]at y;exact y e he (by simp[h1])
    ·have:H=e:=a5 H y e he (by rw[h5,h1]);subst this;rw[h7];simp only[cs,O];exact h2
   ·rcases hE t with ⟨I,y⟩|⟨H,y,h5,O,h7⟩
    ·rw[I];simp only[cs,y];rfl
    ·rcases q4 H y with h8|h8 <;> omega
  boxes:=λb hb=>by
   rcases hE b with ⟨I,y⟩|⟨H,y,h5,O,h7⟩
   ·rw[I];exact .inl ⟨rfl,rfl⟩
   ·obtain⟨g1,g2,g3,⟨E,g4⟩,g5⟩:=(q3 H y).box (by rw[h5];exact hb);rw[h7];exact .inr ⟨g1,E,by simp only[β,cs,O];exact g4⟩
  len:=λq=>by
   rcases hE q with ⟨I,y⟩|⟨H,y,h5,O,h7⟩
   ·rw[I];simp only[cs,y];rfl
   ·rw[h7];simp only[cs,O];exact (q3 H y).len
  one:=λq u hu=>by
   have hu:u∈cs q:=hu;rcases hE q with ⟨I,y⟩|⟨H,y,h5,O,h7⟩
   ·simp only[cs,y]at hu;simp at hu
   ·simp only[cs,O]at hu;exact (q3 H y).one u hu
  leaf:=λq j l v Y hv=>by
   have hv:(cs q)[j]?=some v:=hv;rcases hE q with ⟨I,y⟩|⟨H,y,h5,O,h7⟩
   ·rw[I]at Y;simp[bS.none]at Y
   ·rw[h7]at Y;simp only[cs,O]at hv;show aK P _ _ _ w (bs q j) l v;simp only[bs,O];exact (q3 H y).leaf (fZ w ro ps M J nt) _ _ rfl rfl rfl a9 j l v Y hv
  ownb:=λq j l Y ho k Z=>by
   have Z:k∈bs q j:=Z;rcases hE q with ⟨I,y⟩|⟨H,y,h5,O,h7⟩
   ·rw[I]at Y;simp[bS.none]at Y
   ·rw[h7]at Y;simp only[bs,O]at Z;have b0:=(q3 H y).own j l Y ho k Z;refine⟨id,λhp=>hp.2 (a1 H y k b0),λb hb e0=>?_⟩;obtain⟨e2,g1,g2,g3,g4⟩:=a0 b hb;have a6:=(q3 e2 g1).box g3;have e0:β b=k:=e0;simp only[β,g4]at e0;have:=nW a2 H y e2 g1 k b0 (by rw[<- e0];exact a6.2.1);subst this;exact a6.2.2.1 j l Y ho (by rw[e0];exact Z)
  sep:=λq j l q' j' l' Y ho a4 b1 k Z a3=>by
   have Z:k∈bs q j:=Z;have a3:k∈bs q' j':=a3;rcases hE q with ⟨I,y⟩|⟨e1,y,h5,O,h7⟩
   ·rw[I]at Y;simp[bS.none]at Y
   ·rcases hE q' with ⟨c2,ad⟩|⟨e2,ad,c1,c0,ba⟩
    ·rw[c2]at a4;simp[bS.none]at a4
    ·rw[h7]at Y;rw[ba]at a4;simp only[bs,O]at Z;simp only[bs,c0]at a3;have:=nW a2 e1 y e2 ad k ((q3 e1 y).own j l Y ho k Z) ((q3 e2 ad).own j' l' a4 b1 k a3);subst this;exact⟨by rw[<- h5,<- c1],(q3 e1 y).sep j j' l l' Y ho a4 b1 k Z a3⟩
  box:=λb hb=>by
   obtain⟨e2,g1,g2,g3,g4⟩:=a0 b hb;have a6:=(q3 e2 g1).box g3;refine⟨id,λhp=>hp.2 ?_⟩;show β b∈_;simp only[β,g4];exact a1 e2 g1 _ a6.2.1
  inj:=λb b' hb b9 e0=>by
   obtain⟨e1,g1,g2,g3,g4⟩:=a0 b hb;obtain⟨e2,b2,bb,b3,bn⟩:=a0 b' b9;have e0:β b=β b':=e0;simp only[β,g4,bn]at e0;have:=nW a2 e1 g1 e2 b2 e1.g ((q3 e1 g1).box g3).2.1 (by rw[e0];exact ((q3 e2 b2).box b3).2.1);subst this;rw[<- g2,<- bb]
  nwlt:=λk Z=>Z.elim
  os:=rfl,tape:=rfl,output:=rfl,size:=Ce _,keep:=λ_ _=>rfl
  fixb:=λz hz=>by
   obtain⟨h1,h2,I⟩:=a9 z hz;exact⟨⟨h1,h2⟩,I⟩
  fixt:=λz hz=>by
   obtain⟨i,h1,h2⟩:=ve hz;rw[CE]at h1;show (M.toArray++B6 (nt-M.length) undef).getD z.1 undef=z.2;rw[h1,BN,CR (by simpa using (BK.1 h2).1)];simp[h2] }
end
section
variable {P:Program} {V:Env} {W:Wit} {Γ:List Ctr} {T:TypeId->TI} {R:Type} {st:St} {a:Act} {w:World} {ro:Nat->Prop}
theorem Bn (hT:TOk P T)(h:ap P V W st a w)(x:ResultVar)(z:pu st T x≠.off) :
  ∃ v J,(match x with|.tmp t=>(pure (a.tmps.getD t undef):Sem Value)|.cell b t=>(do loadVar t (<- asAddr (a.tmps.getD b undef)):Sem Value)).run P w=.ok v w /\
   ea (pu st T x) v J/\aC P V W st w (vi st T x) J:=by
 cases x with
 |tmp t =>
  obtain⟨J,h1,M⟩:=cS h (.tmp t);exact⟨_,J,rfl,h1,M⟩
 |cell t u =>
  simp only[pu]at z ⊢;split at z
  ·rename_i b off hb;cases X:decide ((st b).sh=.agg)&&Cg (off+(T u).cells) (st b).ls.length&&!BJ (T u).cells 0 with
   |false=>rw[X]at z;exact absurd rfl z
   |true =>
    simp only[hb,X,cond_true,vi];simp only[BC,decide_eq_true_eq,B8]at X;obtain⟨⟨h1,M⟩,h3⟩:=X;have M:off+(T u).cells<=(st b).ls.length:=Bx M;have Z:T u≠.none:=by
     intro e;rw[e]at h3;simp[TI.cells]at h3
    obtain⟨hp,_,_,_,_⟩:=bq h (.tmp t) (by rw[hb];simp);rw[hb]at hp;obtain⟨hB,a0,H⟩:=hp;have H:a.tmps.getD t undef=.pointer (some ⟨W.β b,off,none⟩):=H;rcases h.boxes b hB with ⟨O,_⟩|⟨_,E,O⟩
    ·rw[a0]at O;cases O
    ·have r:cV w (W.β b) 0 (W.cs b):=λi v H=>by
      rw[CE,cell_of_row w (W.β b) i _ E (0,0) O];simpa using H
     have a1:=h.len b;have I:=r.sub off (T u).cells;rw[CE]at I;obtain⟨v,y,Y⟩:=oa (hT u) Z I (by simp;omega);refine⟨v,_,?_,Y,((iy h b).drop off).take _⟩;simp only[H];simpa[asAddr]using y
  ·exact absurd rfl z
def nz (a:Act):ResultVar->Sem Value
 |.tmp t=>pure (a.tmps.getD t undef)
 |.cell b t=>do loadVar t (<- asAddr (a.tmps.getD b undef))
def nA (P:Program)(a:Act)(w:World):List ResultVar->List Value->Prop
 |[],u=>u=[]
 |x::y,u=>∃ v r,u=v::r/\(nz a x).run P w=.ok v w/\nA P a w y r
theorem rG:∀ (l:List ResultVar) (u:List Value),nA P a w l u->(l.mapM (nz a)).run P w=.ok u w
 |[],_,h=>by rw[show _=_ from h];rfl
 |x::l,_,⟨v,r,e,y,z⟩=>by subst e;simp[Cf,y,rG l r z]
theorem Av (b:Bool):bf b≠.off:=by cases b <;> simp[bf]
def RK.isBox:RK->Bool
 |.box _=>true
 |_=>false
theorem tO (hV:ax V)(hT:TOk P T)(h:ap P V W st a w)(a9:V.ro0=ro){fx:List Nat}:∀ (rs:List RK) (H:List ResultVar) (y:cJ (ai rs)),kd st T fx rs H=some y ->
  ∀ {G:Nat->Prop},(∀ k,bj V W y.p y.frz k->G k) ->
  ∃ (us:List Value) (I:List (List Nat)) (bx:List Nat),nA P a w H us/\gz w G ro rs y.val us I/\(∀ k,I.flatten.count k=(aW W y.kill).count k+(bx.map W.β).count k) /\
   (∀ b∈bx,live st b/\fx.any (BJ b)=false)/\bx.length=rs.countP RK.isBox/\(∀ z∈y.frz,aB st z)/\∀ z∈y.kill,aB st z
 |[],[],y,J,G,hG=>by
  simp only[kd,BA]at J;subst J;exact⟨[],[],[],rfl,⟨rfl,rfl⟩,λk=>by simp[aW],by simp,rfl,by simp,by simp⟩
 |[],_::_,_,J,_,_=>by simp[kd]at J
 |_::_,[],_,J,_,_=>by simp[kd]at J
 |r::rs,x::H,y,J,G,hG=>by
  simp only[kd]at J;cases M:decide (pu st T x=r.sh) with
  |false=>simp[M]at J
  |true =>
   simp only[M,cond_true]at J;have M:=of_decide_eq_true M;split at J
   ·rename_i X y2 u b3;simp only[BA]at J;subst J;obtain⟨v,a4,a5,O,Y⟩:=Bn hT h x (by rw[M];cases r <;> simp only[RK.sh] <;> first|exact Av _|simp);rw[M]at O;have a0:∀ k,bj V W X.p X.frz k->G k:=λk hk=>hG k (dP.1 k hk)
    have b4:∀ k,bj V W y2.p y2.frz k->G k:=λk hk=>hG k (dP.2 k hk)
    obtain⟨us,I,bx,i1,i2,i3,i4,i5,i6,i7⟩:=tO hV hT h a9 rs H y2 b3 b4;have a2:(nz a x).run P w=.ok v w:=by cases x <;> exact a5
    have a1:∀ (b:List Nat) (Z:List Nat),pZ w G ro r X.val v b->(∀ k,b.count k=(aW W X.kill).count k+(Z.map W.β).count k)->(∀ b∈Z,live st b/\fx.any (BJ b)=false)->Z.length=(if r.isBox then 1 else 0)->(∀ z∈X.frz,aB st z)->(∀ z∈X.kill,aB st z) ->
      ∃ (us:List Value) (I:List (List Nat)) (bx:List Nat),nA P a w (x::H) us/\gz w G ro (r::rs) (X.val,y2.val) us I/\(∀ k,I.flatten.count k=(aW W (X.kill++y2.kill)).count k+(bx.map W.β).count k) /\
       (∀ b∈bx,live st b/\fx.any (BJ b)=false)/\bx.length=(r::rs).countP RK.isBox/\(∀ z∈X.frz++y2.frz,aB st z)/\∀ z∈X.kill++y2.kill,aB st z:=by
     intro b Z f1 f2 f3 f4 f5 f6;refine⟨v::us,b::I,Z++bx,⟨v,us,rfl,a2,i1⟩,⟨v,us,b,I,rfl,rfl,f1,i2⟩,λk=>?_,λz hz=>(BB.1 hz).elim (f3 z) (i4 z),?_,λz hz=>(BB.1 hz).elim (f5 z) (i6 z),λz hz=>(BB.1 hz).elim (f6 z) (i7 z)⟩
     ·rw[BQ,BU,f2 k,i3 k,dH,BU,CM,BU];omega
     ·rw[List.length_append,f4,i5,Cv];cases r.isBox <;> simp <;> omega
    cases r with
    |v b =>
     simp only[rU]at u;obtain⟨g1,g2,g3⟩:=dN (pos:=0) h Y u;exact a1 (aW W X.kill) [] ⟨a4,gA O,g1.mono a0⟩ (λk=>by simp) (by simp) rfl g2 g3
    |bv b =>
     simp only[rU,BI]at u;obtain⟨⟨p,z⟩,hz,rfl⟩:=u;have g1:=ey h Y hz;refine a1 [] [] ⟨rfl,a4,gA O,g1.mono λk hk=>?_⟩ (λk=>by simp[aW]) (by simp) rfl (λz hz=>ei Y hz) (by simp);rcases hk with (hk|⟨_,hk⟩)|hk
     ·exact .inl (a0 k (.inl (.inl hk)))
     ·exact .inr (by rw[<- a9];exact hk)
     ·exact .inl (a0 k (.inr hk))
    |box b =>
     simp only[rU]at u;split at u
     ·rename_i b0 b2;cases a3:!(fx.any (BJ b0)) with
      |false=>rw[a3]at u;cases u
      |true =>
       rw[a3]at u;simp only[cond_true]at u;have O:a4=[v]:=O;subst O;rw[b2]at Y;obtain⟨hB,ad,b1⟩:=Y.1.1;obtain⟨g1,g2,g3⟩:=dN (pos:=0) h (iy h b0) u;rcases h.boxes b0 hB with ⟨h8,_⟩|⟨_,E,h8⟩
       ·rw[ad]at h8;cases h8
       ·exact a1 (W.β b0::aW W X.kill) [b0] ⟨W.β b0,W.cs b0,E,_,b1,h8,g1.mono a0,rfl⟩ (λk=>by
         rw[CN,BY,C5,CN,List.count_nil];omega) (λb' a6=>by
         simp at a6;subst a6;exact⟨⟨hB,ad⟩,by simpa using a3⟩) rfl g2 g3
     ·cases u
   ·cases J
theorem mu (hV:ax V)(h:ap P V W st a w){w0:World}{pr:Nat->Prop}(a9:V.nt<=GH):∀ (ps:List PK) (x:ab ps) (vs:List Value) (a3:List (List Nat)) (t:Nat) (o:cJ (ah ps)),c9 P w0 ro pr ps x vs a3->ia st t ps=some o->t+ps.length<=V.nt ->
  (∀ z∈d8 t ps vs,a.tmps.getD z.1 undef=z.2)->(∀ z∈d7 t ps vs,live st z.1/\W.β z.1=z.2)->∀ {G:Nat->Prop},(∀ k,bj V W o.p o.frz k->G k) ->
  ∃ r,bJ w G ps o.val vs r/\(∀ k,r.flatten.count k=(aW W o.kill).count k+((bF t ps).map W.β).count k)/\(∀ z∈o.frz,aB st z)/\(∀ z∈o.kill,aB st z)/\∀ b∈bF t ps,live st b
 |[],x,vs,a3,t,o,⟨e1,e2⟩,y,_,_,_,G,hG=>by
  simp only[ia,BA]at y;subst y;subst e1;exact⟨[],trivial,λk=>by simp[aW,bF],by simp,by simp,by simp[bF]⟩
 |pk::ps,x,vs,a3,t,o,⟨v,O,b,a0,e1,e2,h1,h2⟩,y,ht,a2,a1,G,hG=>by
  subst e1;subst e2;simp only[CA]at ht;have u:∀ (o':cJ (ah ps)),ia st (t+1) ps=some o'->d8 t (pk::ps) (v::O)=d8 (t+1) ps O->d7 t (pk::ps) (v::O)=d7 (t+1) ps O->(∀ k,bj V W o'.p o'.frz k->G k) ->
    ∃ r,bJ w G ps o'.val O r/\(∀ k,r.flatten.count k=(aW W o'.kill).count k+((bF (t+1) ps).map W.β).count k)/\(∀ z∈o'.frz,aB st z)/\(∀ z∈o'.kill,aB st z)/\∀ b∈bF (t+1) ps,live st b:=by
   intro o' b1 e1 e2 ad;exact mu hV h a9 ps x.2 O a0 (t+1) o' h2 b1 (by omega) (λz H=>a2 z (by rw[e1];exact H)) (λz H=>a1 z (by rw[e2];exact H)) ad
  cases pk with
  |io b =>
   simp only[ia]at y;split at y
   ·rename_i y1 y2 Z a6;simp only[BA]at y;subst y;obtain⟨r,J,X,M,Y,I⟩:=mu hV h a9 ps x.2 O a0 (t+1) y2 h2 a6 (by omega) (λz H=>a2 z (BF _ H)) (λz H=>a1 z H) (λk hk=>hG k (dP.2 k hk));cases hb:decide ((au st (.tmp t)).1=bf b.isAgg) with
    |false=>rw[hb]at Z;cases Z
    |true =>
     rw[hb]at Z;simp only[cond_true]at Z;obtain⟨cs,h3,h4⟩:=cS h (.tmp t);rw[of_decide_eq_true hb]at h3;have hv:a.eval (.tmp t)=v:=a2 (t,v) (BG ..);rw[hv]at h3;obtain⟨g1,g2,g3⟩:=dN (pos:=0) h h4 Z;refine⟨aW W y1.kill::r,⟨?_,J⟩,λk=>?_,λz H=>(BB.1 H).elim (g2 z) (M z),λz H=>(BB.1 H).elim (g3 z) (Y z),I⟩
     ·unfold jo;rw[if_neg (by simp)];exact⟨cs,gA h3,g1.mono (λk hk=>hG k (dP.1 k hk))⟩
     ·rw[BQ,BU,X k,dH,BU];show _=_+((bF (t+1) ps).map W.β).count k;omega
   ·cases y
  |iop b =>
   simp only[ia]at y;split at y
   ·rename_i y1 y2 Z a6;simp only[BA]at y;subst y;obtain⟨r,J,X,M,Y,I⟩:=mu hV h a9 ps x.2 O a0 (t+1) y2 h2 a6 (by omega) (λz H=>a2 z (BF _ H)) (λz H=>a1 z (BF _ H)) (λk hk=>hG k (dP.2 k hk));obtain⟨g,c,E,b0,hv,_,_,_⟩:=h1;subst hv;obtain⟨a5,hβ⟩:=a1 (B0+t,tM (.pointer (some ⟨g,0,none⟩))) (BG ..);have hβ:W.β (B0+t)=g:=hβ;obtain⟨g1,g2,g3⟩:=dN (pos:=0) h (iy h (B0+t)) Z;rcases h.boxes (B0+t) a5.1 with ⟨h8,_⟩|⟨_,E',h8⟩
    ·have:=a5.2;rw[h8]at this;cases this
    ·refine⟨(g::aW W y1.kill)::r,⟨?_,J⟩,λk=>?_,λz H=>(BB.1 H).elim (g2 z) (M z),λz H=>(BB.1 H).elim (g3 z) (Y z),λb' a4=>?_⟩
     ·unfold jo;rw[if_pos rfl];exact⟨g,W.cs (B0+t),E',_,rfl,by rw[<- hβ];exact h8,g1.mono (λk hk=>hG k (dP.1 k hk)),rfl⟩
     ·rw[BQ,BU,X k,dH,BU,CN];show _=_+(W.β (B0+t)::(bF (t+1) ps).map W.β).count k;rw[CN,hβ];omega
     ·rcases BO.1 a4 with rfl|a4
      ·exact a5
      ·exact I b' a4
   ·cases y
  |rd b =>
   obtain⟨r,J,X,M,Y,I⟩:=u o y rfl rfl hG;exact⟨[]::r,⟨rfl,J⟩,λk=>by rw[BQ,B3];exact X k,M,Y,I⟩
  |own b =>
   obtain⟨r,J,X,M,Y,I⟩:=u o y rfl rfl hG;exact⟨[]::r,⟨rfl,J⟩,λk=>by rw[BQ,B3];exact X k,M,Y,I⟩
  |rref b =>
   obtain⟨r,J,X,M,Y,I⟩:=u o y rfl rfl hG;exact⟨[]::r,⟨rfl,J⟩,λk=>by rw[BQ,B3];exact X k,M,Y,I⟩
  |rref2 b =>
   obtain⟨r,J,X,M,Y,I⟩:=u o y rfl rfl hG;exact⟨[]::r,⟨rfl,J⟩,λk=>by rw[BQ,B3];exact X k,M,Y,I⟩
  |fn As B =>
   obtain⟨r,J,X,M,Y,I⟩:=u o y rfl rfl hG;exact⟨[]::r,⟨rfl,J⟩,λk=>by rw[BQ,B3];exact X k,M,Y,I⟩
  |clo f cs =>
   obtain⟨r,J,X,M,Y,I⟩:=u o y rfl rfl hG;exact⟨[]::r,⟨rfl,J⟩,λk=>by rw[BQ,B3];exact X k,M,Y,I⟩
  |hol b c off =>
   obtain⟨r,J,X,M,Y,I⟩:=u o y rfl rfl hG;exact⟨[]::r,⟨rfl,J⟩,λk=>by rw[BQ,B3];exact X k,M,Y,I⟩
end
section
variable {P:Program} {Γ:List Ctr} {T:TypeId->TI} {w:World} {ro:Nat->Prop}
theorem uw {fn:Func}{a:Act}{w:World}{r:List Value}(h:nA P a w fn.results.toList r):(results fn a.tmps).run P w=.ok (if h:r.toArray.size=1 then r.toArray[0] else .tuple r.toArray) w:=by
 have y:=rG _ _ h;have e:results fn a.tmps=(fn.results.mapM (nz a) >>= λu=>pure (if h:u.size=1 then u[0] else .tuple u)):=by
  unfold results;congr 1
 have z:(fn.results.mapM (nz a)).run P w=.ok r.toArray w:=by
  rw[Array.mapM_eq_mapM_toList];simp[y]
 rw[e];simp only[CI,z,CC,Cr]
theorem Bo (us:List Value):r9 us (if h:us.toArray.size=1 then us.toArray[0] else .tuple us.toArray):=by
 match us with
 |[]=>rfl
 |[u]=>rfl
 |u::r::us =>
  rw[dif_neg (by simp)];rfl
theorem rH:∀ (ps:List PK) (t:Nat),(bF t ps).Nodup/\∀ b∈bF t ps,B0+t<=b
 |[],t=>⟨CS,by simp[bF]⟩
 |H::ps,t=>by
  obtain⟨y,u⟩:=rH ps (t+1);have z:∀ b∈bF (t+1) ps,B0+t<=b:=λb r=>by have:=u b r;omega
  cases H with
  |iop a =>
   refine⟨B5.2 ⟨λI=>?_,y⟩,λb r=>?_⟩
   ·have:=u _ I;omega
   ·rcases BO.1 r with rfl|r
    ·exact Ce _
    ·exact z b r
  |_=>exact⟨y,z⟩
theorem Bp {u:List RK}(h:qn u=true):u.countP RK.isBox<=1:=by
 unfold qn at h;split at h
 ·simp[RK.isBox]
 ·rw[Cj.2]
  ·exact Cx _
  ·intro r y;rw[BX]at h;have:=h r y;cases r <;> simp[RK.isV,RK.isBox]at this ⊢
theorem rI {β:Nat->Nat}:∀ {bs:List Nat},bs.Nodup->(∀ b∈bs,∀ u∈bs,β b=β u->b=u)->(bs.map β).Nodup
 |[],_,_=>CS
 |b::bs,z,H=>by
  rw[B5]at z;rw[BY,B5];refine⟨λJ=>?_,rI z.2 (λx M y I=>H x (BF _ M) y (BF _ I))⟩;obtain⟨u,r,e⟩:=BL.1 J;have:=H u (BF _ r) b (BG ..) e;exact z.1 (by rw[<- this];exact r)
theorem xU (hT:TOk P T){c:Ctr}(c4:qn c.rs=true){vs:List Value}{J:List (List Nat)}{fn:Func}{nt:Nat}(hV:ax (fZ w ro c.ps vs J nt)){x:ab c.ps}{pr:Nat->Prop}(a6:c9 P w ro pr c.ps x vs J)(bn:c.ps.length<=nt){ex:Ex}{s1:St}{y:ai c.rs×ah c.ps}
  (r:de T c.ps c.rs c.fresh fn.results.toList ex s1=some y) {a:Act} {w':World} (u:Rel P (fZ w ro c.ps vs J nt) s1 a w') :
  (ex=.normal\/ex=.ret)/\∃ v,(results fn a.tmps).run P w'=.ok v w'/\tq c w ro vs J y (.returned v) w':=by
 obtain⟨W,u⟩:=u;have ba:ex=.normal\/ex=.ret:=by
  cases ex with
  |normal=>exact .inl rfl
  |ret=>exact .inr rfl
  |exit id=>cases r
 refine⟨ba,?_⟩;have r:finR T c.ps c.rs c.fresh fn.results.toList s1=some y:=by
  rcases ba with rfl|rfl <;> exact r
 unfold finR at r;split at r
 ·rename_i M O c6 c5;cases Y:aY (M.kill++O.kill)&&dC (M.frz++O.frz) (M.kill++O.kill)&&(!c.fresh||!(M.p||O.p)) with
  |false=>rw[Y]at r;cases r
  |true =>
   rw[Y]at r;simp only[cond_true,BA]at r;subst r;simp only[BC]at Y;obtain⟨⟨bb,c1⟩,b9⟩:=Y;let N:Nat->Prop:=λk=>W.nw k\/∃ z∈M.frz++O.frz,k∈W.bs z.1 z.2
   have hG:∀ (p:Bool) (b5:List (Nat×Nat)),(p=true->(M.p||O.p)=true)->(∀ z∈b5,z∈M.frz++O.frz)->∀ k,bj (fZ w ro c.ps vs J nt) W p b5 k->N k\/(c.fresh=false/\ro k):=by
    intro p b5 hp H k I;rcases I with (I|⟨hq,I⟩)|⟨z,Z,I⟩
    ·exact .inl (.inl I)
    ·refine .inr ⟨?_,I⟩;rw[hp hq]at b9;simpa using b9
    ·exact .inl (.inr ⟨z,H z Z,I⟩)
   obtain⟨us,b3,bx,r1,r2,r3,r4,r5,r6,r7⟩:=tO hV hT u rfl c.rs fn.results.toList M c6 (G:=λk=>N k\/(c.fresh=false/\ro k)) (hG M.p M.frz (by intro h;simp[h]) (λz H=>BD _ H));obtain⟨a9,o1,o2,o3,o4,o5⟩:=mu hV u hV.nt c.ps x vs J 0 O a6 c5 (by rw[CE];exact bn) (λz H=>u.fixt z H) (λz H=>u.fixb z H) (G:=λk=>N k\/(c.fresh=false/\ro k)) (hG O.p O.frz (by intro h;simp[h]) (λz H=>BE _ H));have a2:∀ z∈M.kill++O.kill,aB s1 z:=λz H=>(BB.1 H).elim (r7 z) (o4 z)
   have a3:∀ z∈M.frz++O.frz,aB s1 z:=λz H=>(BB.1 H).elim (r6 z) (o3 z)
   have a4:∀ k,k<w'.heap.size->¬ (fZ w ro c.ps vs J nt).prot k->p6 w w' J.flatten k:=by
    intro k I hp;refine⟨I,?_⟩;by_cases c0:k<w.heap.size
    ·right;apply Bw;intro hn;exact hp ⟨c0,hn⟩
    ·exact .inl (by omega)
   have c2:∀ k,N k->p6 w w' J.flatten k:=by
    rintro k (I|⟨z,H,I⟩)
    ·exact a4 k (u.nwlt k I).1 (u.nwlt k I).2
    ·obtain⟨l,h7,h8⟩:=a3 z H;exact a4 k (u.own_lt h7 h8 k I) (u.ownb z.1 z.2 l h7 h8 k I).2.1
   have X:∀ b∈bx++bF 0 c.ps,live s1 b:=λb R=>(BB.1 R).elim (λR=>(r4 b R).1) (o5 b)
   have bl:(bx++bF 0 c.ps).Nodup:=by
    rw[CB];refine⟨?_,(rH c.ps 0).1,λb R b' ad e=>?_⟩
    ·have:=Bp c4;rw[<- r5]at this
     match bx,this with
     |[],_=>exact CS
     |[b],_=>simp
    ·subst e;have:=CU.1 (r4 b R).2 b ad;simp at this
   have b2:=rI (β:=W.β) bl (λb R b' ad e=>u.inj b b' (X b R) (X b' ad) e);have a5:∀ k,(a9.flatten++b3.flatten).count k=(aW W (M.kill++O.kill)).count k+((bx++bF 0 c.ps).map W.β).count k:=λk=>by
    rw[BU,o2 k,r3 k,dH,BU,CM,BU];omega
   have c3:=br.1 (gP u bb a2);have b4:∀ k∈a9.flatten++b3.flatten,(∃ z∈M.kill++O.kill,k∈W.bs z.1 z.2)\/∃ b,live s1 b/\W.β b=k:=λk I=>by
    have h5:=BW.2 I;rw[a5 k]at h5;by_cases h6:k∈aW W (M.kill++O.kill)
    ·exact .inl (gh.1 h6)
    ·have:=CT.2 h6;obtain⟨b,R,e⟩:=BL.1 (BW.1 (show 0<((bx++bF 0 c.ps).map W.β).count k by omega));exact .inr ⟨b,X b R,e⟩
   refine⟨_,uw r1,_,us,N,a9,b3,rfl,Bo us,u.size,u.os,u.tape,u.output,λk h1 h2=>u.keep k ⟨h1,h2⟩,c2,o1,r2,br.2 λk=>?_,λk I=>?_⟩
   ·rw[a5 k];have h5:=c3 k;have h6:=br.1 b2 k;by_cases h7:k∈(bx++bF 0 c.ps).map W.β
    ·have:(aW W (M.kill++O.kill)).count k=0:=CT.2 λhm=>by
      obtain⟨b,R,e⟩:=BL.1 h7;obtain⟨z,H,a0⟩:=gh.1 hm;obtain⟨l,hl,ho⟩:=a2 z H;exact (u.ownb z.1 z.2 l hl ho k a0).2.2 b (X b R) e
     omega
    ·have:=CT.2 h7;omega
   ·rcases b4 k I with ⟨z,H,a0⟩|⟨b,R,e⟩
    ·obtain⟨l,hl,ho⟩:=a2 z H;have h9:=u.ownb z.1 z.2 l hl ho k a0;refine⟨a4 k (u.own_lt hl ho k a0) h9.2.1,?_⟩;rintro (hn|⟨z',Z,a1⟩)
     ·exact h9.1 hn
     ·obtain⟨l',b0,b1⟩:=a3 z' Z;obtain⟨e1,e2⟩:=u.sep z.1 z.2 l z'.1 z'.2 l' hl ho b0 b1 k a0 a1;exact nF c1 z' Z (by rw[show z'=z from Prod.ext e1.symm e2.symm];exact H)
    ·subst e;have h9:=u.box b R;refine⟨a4 _ (u.box_lt R) h9.2,?_⟩;rintro (hn|⟨z',Z,a1⟩)
     ·exact h9.1 hn
     ·obtain⟨l',b0,b1⟩:=a3 z' Z;exact (u.ownb z'.1 z'.2 l' b0 b1 _ a1).2.2 b R rfl
 ·cases r
theorem jX:∀ {ps:List PK} {u:List Value} {t:Nat} {z:Nat×Value},z∈d8 t ps u->z.1∈gf t ps
 |[],_,_,_,h=>by simp[d8]at h
 |r::ps,[],_,_,h=>by cases r <;> simp[d8]at h
 |r::ps,v::u,t,z,h=>by
  cases r <;> simp only[d8,gf,BO]at h ⊢ <;> first
   |exact jX h
   |exact h.imp (λe=>by rw[e]) jX
theorem jY:∀ {ps:List PK} {u:List Value} {t:Nat} {z:Nat×Nat},z∈d7 t ps u->z.1∈bF t ps
 |[],_,_,_,h=>by simp[d7]at h
 |r::ps,[],_,_,h=>by cases r <;> simp[d7]at h
 |r::ps,v::u,t,z,h=>by
  cases r <;> simp only[d7,bF,BO]at h ⊢ <;> first
   |exact jY h
   |exact h.imp (λe=>by rw[e]) jY
theorem dn {f:FuncId}{fn:Func}{c:Code}(y:P.funcs[f]?=some fn)(H:(fn.name== "runtime.NumGoroutine")=false) (z:fn.body=some c):fO P f:=by
 intro u w;have r:fn.name≠ "runtime.NumGoroutine" := by simpa using H
 simp[callFunc,y,r,z]
theorem pi (hT:TOk P T)(hΓ:∀ c∈Γ,bO P c)(X:P.follows .mixedOrders=true){c:Ctr}{fn:Func}(hf:P.funcs[c.f]?=some fn)(hn:(fn.name== "runtime.NumGoroutine")=false)
  {L:List (Nat×List (Nat×List Coe))} {M:Nat} (hb:fn.body.isSome=true) (O:∀ x,evF Γ T L M fn c.ps c.rs c.fresh x=c.den x):bO P c:=by
 obtain⟨H,hb⟩:=Option.isSome_iff_exists.1 hb;refine⟨dn hf hn hb,λw ro x vs a0 y u a2 a1 J=>?_⟩;rw[<- O]at J;unfold evF at J;simp only[hb]at J;cases r:dO fn.ntmps (gf 0 c.ps) H&&Cg c.ps.length fn.ntmps&&Cg fn.ntmps GH&&qn c.rs&&dp L (bF 0 c.ps) H with
 |false=>simp[r]at J
 |true =>
  simp only[r,cond_true]at J;simp only[BC]at r;obtain⟨⟨⟨⟨h1,h2⟩,h3⟩,h4⟩,h5⟩:=r;have h2:=Bx h2;have h3:=Bx h3;have hV:ax (fZ w ro c.ps vs a0 fn.ntmps):=⟨λk hk=>a2 k hk,h3⟩;have Z:=vf (P:=P) (ro:=ro) u a1 h2 h3;refine calls_of_wp hf hb ?_;rw[Cs];refine sb hV hT hΓ X (λz hz=>jY hz) (nt:=fn.ntmps) (fix:=gf 0 c.ps) rfl (λz hz=>jX hz) H h1 h5 _ _ y _ J (λex s1 Y a' w' hr=>?_) _ _ Z;obtain⟨a3,v,R,I⟩:=xU hT h4 hV u h2 Y hr;have a4:a'.defers=[]:=by obtain⟨W,hr⟩:=hr;exact hr.df
  rcases a3 with rfl|rfl <;> exact⟨a4,v,R,I⟩
end
section
variable {P:Program}
def szB (P:Program)(t:TypeId)(n:Nat):Bool :=
 match P.info? t with
 |some i=>BJ i.size n
 |none=>false
theorem fJ {t:TypeId}{n:Nat}(h:szB P t n=true):bP P t n:=by
 unfold szB at h;unfold bP;split at h
 ·rename_i i r;rw[r];simp only[Bu];rw[BH h]
 ·cases h
def tP (P:Program)(t:TypeId)(agg:Bool):Bool :=
 match P.underlying t with
 |some (.struct _)|some (.array _ _)=>agg
 |some _=>!agg
 |none=>false
theorem qL {t:TypeId}{agg:Bool}(h:tP P t agg=true):(P.underlying t).map (λd=>match d with|.struct _|.array _ _=>true|_=>false)=some agg:=by
 unfold tP at h;split at h
 ·rename_i r;rw[r];simp[h]
 ·rename_i r;rw[r];simp[h]
 ·rename_i d u y r;rw[r];simp only[Bu,BA];cases agg with
  |true=>cases h
  |false =>
   cases d <;> first|rfl|(exact absurd r (u _))|(exact absurd r (y _ _))
 ·cases h
theorem Aw {t:TypeId}{agg:Bool}(h:(P.underlying t).map (λd=>match d with|.struct _|.array _ _=>true|_=>false)=some agg)(w:World):(isAgg t).run P w=.ok agg w:=by
 unfold isAgg;cases r:P.underlying t with
 |none=>simp[r]at h
 |some u =>
  rw[r]at h;simp only[Bu,BA]at h;subst h;rw[CI,run_underlying r w];cases u <;> rfl
def lC (P:Program)(f:Field)(off:Nat)(b:Ty):Bool:=(f.name != "_")&&BJ f.offset off&&szB P f.type b.cells&&tP P f.type b.isAgg
def eqF (P:Program)(g:Ty->TypeId->Bool):List Field->Nat->Ty->Bool
 |[],_,_=>false
 |[f],off,b=>lC P f off b&&g b f.type
 |f::r,off,.pair b c=>lC P f off b&&g b f.type&&eqF P g r (off+b.cells) c
 |_,_,_=>false
def eqT (P:Program):Nat->Ty->TypeId->Bool
 |0,_,_=>false
 |n+1,a,t=>match a with
  |.int k=>(match P.underlying t with|some (.int k')=>decide (k'=k)|_=>false)
  |.bool=>(match P.underlying t with|some .bool=>true|_=>false)
  |.str=>(match P.underlying t with|some .string=>true|_=>false)
  |.pair b c=>(match P.underlying t with|some (.struct fs)=>!P.stoodInHeld t&&eqF P (eqT P n) fs.toList 0 (.pair b c)|_=>false)
  |_=>false
theorem ze:∀ (b:Ty),b.isAgg=false->b.cells=1
 |.int _,_=>rfl
 |.bool,_=>rfl
 |.str,_=>rfl
 |.list _ _ _,_=>rfl
 |.hdr,_=>rfl
 |.unit,h=>by cases h
 |.pair _ _,h=>by cases h
theorem mv {f:Field}{off:Nat}{b:Ty}(h:lC P f off b=true){xs p c s:List Value}(J:xs=p++c++s)(M:p.length=off)(H:c.length=b.cells)(w:World) :
  ∃ v,(part f.type xs.toArray f.offset).run P w=.ok v w/\db b.isAgg v c:=by
 unfold lC at h;simp only[BC]at h;obtain⟨⟨⟨_,y⟩,X⟩,R⟩:=h;have y:=BH y;have r:=Aw (qL R) w;have z:=du (fJ X) w;have u:(xs.drop off).take b.cells=c:=by
  rw[J,By,<- M,List.drop_left,<- H,List.take_left]
 cases I:b.isAgg with
 |true =>
  rw[I]at r;refine⟨.agg c.toArray,?_,rfl⟩;have e:xs.toArray.extract off (off+b.cells)=c.toArray:=by
   rw[List.extract_toArray,List.extract_eq_take_drop,Nat.add_sub_cancel_left,u]
  simp only[part,CI,r,CC,if_true,z,Cr,y,e]
 |false =>
  rw[I]at r;have O:=ze b I;rw[O]at H
  match c,H with
  |[v],_ =>
   refine⟨v,?_,rfl⟩;have e:xs.toArray[off]?=some v:=by
    simp only[List.getElem?_toArray];rw[J,By,BZ (by omega)];simp[M]
   simp only[part,CI,r,CC,CO,if_false,y,e,Cr]
def zx (P:Program)(d:Nat)(b:Ty)(t:TypeId):Prop:=∀ (w:World) (G:Nat->Prop) (x y:b.den) (H r:Value) (z u:List Value),db b.isAgg H z->Rd w G b x z->db b.isAgg r u->Rd w G b y u ->
 (Op.equalIn d t H r).run P w=.ok (b.eqv x y) w
theorem xV {d:Nat}{g:Ty->TypeId->Bool}(hg:∀ b t,g b t=true->zx P d b t):∀ (fs:List Field) (off:Nat) (b:Ty),eqF P g fs off b=true->∀ (w:World) (G:Nat->Prop) (x y:b.den) (z O H X:List Value),
  z.length=off->H.length=off->Rd w G b x O->Rd w G b y X->(Op.eqFields d (z++O).toArray (H++X).toArray fs).run P w=.ok (b.eqv x y) w
 |[],_,_,h=>by simp[eqF]at h
 |[f],off,b,h=>by
  intro w G x y z O H X r u Z hy;simp only[eqF,BC]at h;obtain⟨v1,h1,h2⟩:=mv h.1 (xs:=z++O) (p:=z) (c:=O) (s:=[]) (by simp) r Z.len w;obtain⟨v2,h3,h4⟩:=mv h.1 (xs:=H++X) (p:=H) (c:=X) (s:=[]) (by simp) u hy.len w;have h5:=hg b f.type h.2 w G x y v1 v2 O X h2 Z h4 hy;have hn:f.name≠ "_" := by
   have:=h.1;unfold lC at this;simp only[BC]at this;simpa using this.1.1.1
  simp only[Op.eqFields,if_pos hn,CI,h1,h3,h5,CC];cases b.eqv x y <;> simp
 |f::R::fs,off,.pair b c,h=>by
  intro w G x y z O H X r u Z hy;simp only[eqF,BC]at h;obtain⟨⟨Y,a1⟩,M⟩:=h;obtain⟨c1,c2,rfl,I,a2⟩:=Z;obtain⟨d1,d2,rfl,J,a0⟩:=hy;obtain⟨v1,h1,h2⟩:=mv Y (xs:=z++(c1++c2)) (p:=z) (c:=c1) (s:=c2) (by simp) r I.len w;obtain⟨v2,h3,h4⟩:=mv Y (xs:=H++(d1++d2)) (p:=H) (c:=d1) (s:=d2) (by simp) u J.len w;have h5:=hg b f.type a1 w G x.1 y.1 v1 v2 c1 d1 h2 I h4 J;have h6:=xV hg (R::fs) (off+b.cells) c M w G x.2 y.2 (z++c1) c2 (H++d1) d2 (by simp[r,I.len]) (by simp[u,J.len]) a2 a0;rw[By,By]at h6;have hn:f.name≠ "_" := by
   unfold lC at Y;simp only[BC]at Y;simpa using Y.1.1.1
  rw[Op.eqFields];simp only[if_pos hn,CI,h1,h3,h5,CC];show _=Result.ok (b.eqv x.1 y.1&&c.eqv x.2 y.2) w;cases b.eqv x.1 y.1 with
  |false=>simp
  |true=>simpa using h6
 |f::R::fs,off,.int _,h=>by simp[eqF]at h
 |f::R::fs,off,.bool,h=>by simp[eqF]at h
 |f::R::fs,off,.str,h=>by simp[eqF]at h
 |f::R::fs,off,.unit,h=>by simp[eqF]at h
 |f::R::fs,off,.list _ _ _,h=>by simp[eqF]at h
 |f::R::fs,off,.hdr,h=>by simp[eqF]at h
theorem rJ (x y:ByteArray):(x==y)=decide (x=y):=by
 rw[beq_toListBytes];by_cases h:x=y
 ·subst h;simp
 ·rw[decide_eq_false h];cases r:(x.toList==y.toList) with
  |false=>rfl
  |true =>
   exfalso;apply h;have:=eq_of_beq r;rw[Ck,Ck]at this;apply ByteArray.ext;exact Array.ext' this
theorem xW:∀ (n:Nat) (a:Ty) (t:TypeId),eqT P n a t=true->∀ d,n<=d->zx P d a t
 |0,_,_,h=>by simp[eqT]at h
 |n+1,a,t,h=>by
  intro d hd;obtain⟨d,rfl⟩:∃ d',d=d'+1:=⟨d-1,by omega⟩;intro w G x y O R J M r z u H;cases a with
  |int k =>
   simp only[eqT]at h;split at h
   ·rename_i Y I;have hk:=of_decide_eq_true h;subst hk;have z:J=[.int Y x]:=z;have H:M=[.int Y y]:=H;have r:J=[O]:=r;have u:M=[R]:=u;rw[z]at r;rw[H]at u;simp at r u;subst r;subst u;simp[Op.equalIn,run_underlying I,Ty.eqv];rfl
   ·cases h
  |bool =>
   simp only[eqT]at h;split at h
   ·rename_i I;have z:J=[.bool x]:=z;have H:M=[.bool y]:=H;have r:J=[O]:=r;have u:M=[R]:=u;rw[z]at r;rw[H]at u;simp at r u;subst r;subst u;simp[Op.equalIn,run_underlying I,Ty.eqv]
   ·cases h
  |str =>
   simp only[eqT]at h;split at h
   ·rename_i I;have z:J=[.string x]:=z;have H:M=[.string y]:=H;have r:J=[O]:=r;have u:M=[R]:=u;rw[z]at r;rw[H]at u;simp at r u;subst r;subst u;have:=rJ x y;simp[Op.equalIn,run_underlying I,Ty.eqv,this]
   ·cases h
  |pair b c =>
   simp only[eqT]at h;split at h
   ·rename_i Z I;simp only[BC,B8]at h;have X:P.fieldsOf t=Z:=by simp[Program.fieldsOf,I]
    have r:O=.agg J.toArray:=r;have u:R=.agg M.toArray:=u;subst r;subst u;rw[run_equalIn_struct (P:=P) w d t _ _ (by rw[X];exact I) h.1,X];have:=xV (P:=P) (λb t hb=>xW n b t hb d (by omega)) Z.toList 0 (.pair b c) h.2 w G x y [] J [] M rfl rfl z H;simpa using this
   ·cases h
  |unit=>simp[eqT]at h
  |hdr=>simp[eqT]at h
  |list m E e=>simp[eqT]at h
theorem Ax {t:TypeId}{a:Ty}(h:eqT P 64 a t=true)(u:a.isAgg=true):EqAt P t a:=by
 intro _ w G x y r z I H;have:=xW 64 a t h Op.maxDepth (by decide) w G x y (.agg r.toArray) (.agg z.toArray) r z (by rw[u];rfl) I (by rw[u];rfl) H;exact this
def wz:Value->Value->Bool
 |.int k n,.int y r=>decide (k=y)&&decide (n=r)
 |.bool b,.bool u=>b==u
 |.string s,.string z=>decide (s.toList=z.toList)
 |.slice none 0 0,.slice none 0 0=>true
 |.pointer none,.pointer none=>true
 |.nilFunc,.nilFunc=>true
 |_,_=>false
def kM:List Value->List Value->Bool
 |[],[]=>true
 |v::y,u::r=>wz v u&&kM y r
 |_,_=>false
theorem zf {v u:Value}(h:wz v u=true):v=u:=by
 unfold wz at h;split at h
 ·simp only[BC,decide_eq_true_eq]at h;rw[h.1,h.2]
 ·rw[eq_of_beq h]
 ·rename_i s y;have:s=y:=by
   have r:=rJ s y;rw[beq_toListBytes,of_decide_eq_true h]at r;simpa using r.symm
  rw[this]
 ·rfl
 ·rfl
 ·rfl
 ·cases h
theorem mw:∀ {r us:List Value},kM r us=true->r=us
 |[],[],_=>rfl
 |v::r,u::us,h=>by
  simp only[kM,BC]at h;rw[zf h.1,mw h.2]
 |[],_::_,h=>by simp[kM]at h
 |_::_,[],h=>by simp[kM]at h
def zB (P:Program)(t:TypeId)(agg:Bool)(cs:List Value):Bool :=
 match P.info? t with
 |some i=>match i.zero with
  |some (.agg r)=>agg&&kM r.toList cs
  |some v=>!agg&&kM [v] cs
  |none=>false
 |none=>false
theorem xX {t:TypeId}{cs:List Value}(h:zB P t true cs=true):d4 P t (.agg cs.toArray):=by
 unfold zB at h;unfold d4;split at h
 ·rename_i i u;rw[u];split at h
  ·rename_i y r;simp only[Cm]at h;rw[Bu,r,<- mw h,Array.toArray_toList]
  ·cases h
  ·cases h
 ·cases h
theorem lD {t:TypeId}{v:Value}(h:zB P t false [v]=true):d4 P t v:=by
 unfold zB at h;unfold d4;split at h
 ·rename_i i y;rw[y];split at h
  ·cases h
  ·rename_i u _ r;simp only[C4,Cm]at h;have:=mw h;simp only[Ca,and_true]at this;rw[Bu,r,this]
  ·cases h
 ·cases h
def kc (P:Program)(n:Nat):List Field->List (Nat×Nat×Bool)->Bool
 |[],[]=>true
 |f::r,(off,k,agg)::u=>BJ f.offset off&&szB P f.type k&&tP P f.type agg&&CZ 0 k&&Cg (off+k) n&&(agg||BJ k 1)&&kc P n r u
 |_,_=>false
def isU8:Ty->Bool
 |.int .u8=>true
 |_=>false
def u8B (P:Program)(E:TypeId):Bool :=
 match P.underlying E with
 |some (.int .u8)=>true
 |_=>false
def tiB (P:Program)(t:TypeId):TI->Bool
 |.int k=>(match P.underlying t with|some (.int k')=>decide (k'=k)|_=>false)&&szB P t 1&&zB P t false [.int k 0]
 |.bool=>(match P.underlying t with|some .bool=>true|_=>false)&&szB P t 1&&zB P t false [.bool false]
 |.str=>(match P.underlying t with|some .string=>true|_=>false)&&szB P t 1&&zB P t false [.string ByteArray.empty]
 |.slice E e r=>(match P.underlying t with|some (.slice E')=>BJ E' E|_=>false)&&szB P t 1&&zB P t false [.slice none 0 0]&&CZ 0 e.cells&&CZ 0 r &&
  szB P E e.cells&&(match P.info? E with | some i=>BJ i.bytes r&&(match i.zero with | some z=>kM z.cells.toList (zeroCells e) | none=>false) | none=>false)&&(!isU8 e||u8B P E)
 |.arr e n=>(match P.underlying t with|some (.array m E)=>BJ m n&&szB P E e.cells&&tP P E e.isAgg|_=>false)&&CZ 0 e.cells&&szB P t (n*e.cells)&&zB P t true (List.replicate n (zeroCells e)).flatten
 |.struct a u=>(match P.underlying t with | some (.struct y)=>kc P a.cells y.toList u | _=>false)&&szB P t a.cells&&zB P t true (zeroCells a)&&a.isAgg&&(!a.flat||eqT P 64 a t)&&!P.eqGuardType P.depth t
 |.ptr=>(match P.underlying t with|some (.pointer _)=>true|_=>false)&&szB P t 1&&zB P t false [.pointer none]
 |.fn=>(match P.underlying t with|some (.func _ _ _)=>true|_=>false)&&szB P t 1&&zB P t false [.nilFunc]
 |.none=>true
theorem qi {n:Nat}:∀ {fs:List Field} {xs:List (Nat×Nat×Bool)},kc P n fs xs=true ->
  fs.mapM (λf=>(P.info? f.type).map λi=>(f.offset,i.size))=some (xs.map λx=>(x.1,x.2.1)) /\
  ∀ (i off k:Nat) (agg:Bool),xs[i]?=some (off,k,agg)->(agg=false->k=1)/\∃ f:Field,fs[i]?=some f/\f.offset=off/\0<k/\off+k<=n/\bP P f.type k /\
   (P.underlying f.type).map (λd=>match d with|.struct _|.array _ _=>true|_=>false)=some agg
 |[],[],_=>⟨rfl,λi off k agg h=>by simp at h⟩
 |[],_::_,h=>by simp[kc]at h
 |_::_,[],h=>by simp[kc]at h
 |f::fs,(off,k,agg)::xs,h=>by
  simp only[kc,BC,CL]at h;obtain⟨⟨⟨⟨⟨⟨H,h2⟩,h3⟩,h4⟩,M⟩,u⟩,Y⟩:=h;have H:=BH H;have r:=fJ h2;obtain⟨h8,h9⟩:=qi Y;constructor
  ·unfold bP at r;cases J:P.info? f.type with
   |none=>rw[J]at r;cases r
   |some i =>
    rw[J]at r;simp only[Bu,BA]at r;simp[Cf,J,h8,r,H]
  ·intro i z Z y I;cases i with
   |zero =>
    simp at I;obtain⟨rfl,rfl,rfl⟩:=I;refine⟨λha=>?_,f,rfl,H,by simpa[CG]using h4,Bx M,r,qL h3⟩;rcases u with u|u
    ·rw[ha]at u;cases u
    ·exact BH u
   |succ i =>
    obtain⟨X,f',O,R⟩:=h9 i z Z y (by simpa using I);exact⟨X,f',by simpa using O,R⟩
theorem Bq {t:TypeId}{i:TI}(h:tiB P t i=true):oK P t i:=by
 cases i with
 |none=>trivial
 |int k =>
  simp only[tiB,BC]at h;obtain⟨⟨r,I⟩,H⟩:=h;split at r
  ·rename_i k' u;rw[of_decide_eq_true r]at u;exact⟨u,fJ I,lD H⟩
  ·cases r
 |bool =>
  simp only[tiB,BC]at h;obtain⟨⟨r,I⟩,H⟩:=h;split at r
  ·rename_i u;exact⟨u,fJ I,lD H⟩
  ·cases r
 |str =>
  simp only[tiB,BC]at h;obtain⟨⟨r,I⟩,H⟩:=h;split at r
  ·rename_i u;exact⟨u,fJ I,lD H⟩
  ·cases r
 |ptr =>
  simp only[tiB,BC]at h;obtain⟨⟨r,I⟩,H⟩:=h;split at r
  ·rename_i e u;exact⟨⟨e,u⟩,fJ I,lD H⟩
  ·cases r
 |fn =>
  simp only[tiB,BC]at h;obtain⟨⟨r,I⟩,H⟩:=h;split at r
  ·rename_i x y z u;exact⟨⟨x,y,z,u⟩,fJ I,lD H⟩
  ·cases r
 |slice E e a1 =>
  simp only[tiB,BC]at h;obtain⟨⟨⟨⟨⟨⟨⟨r,I⟩,H⟩,Z⟩,M⟩,Y⟩,R⟩,J⟩:=h;have a0:e=.int .u8->P.underlying E=some (.int .u8):=by
   intro he;subst he;have J:u8B P E=true:=by simpa[isU8]using J
   unfold u8B at J;split at J
   ·rename_i hq;exact hq
   ·cases J
  split at r
  ·rename_i E' u;rw[BH r]at u;split at R
   ·rename_i ti X;simp only[BC]at R;obtain⟨h8,h9⟩:=R;split at h9
    ·rename_i z hz;have O:=fJ Y;unfold bP at O;rw[X]at O;simp only[Bu,BA]at O;exact⟨u,fJ I,lD H,by simpa[CG]using Z,⟨by simpa[CG]using M,a0⟩,ti,z,X,O,BH h8,hz,mw h9⟩
    ·cases h9
   ·cases R
  ·cases r
 |arr e n =>
  simp only[tiB,BC]at h;obtain⟨⟨⟨r,I⟩,H⟩,Z⟩:=h;split at r
  ·rename_i m E u;simp only[BC]at r;obtain⟨⟨M,Y⟩,R⟩:=r;rw[BH M]at u;exact⟨⟨E,u,fJ Y,qL R⟩,by simpa[CG]using I,fJ H,xX Z⟩
  ·cases r
 |struct a a2 =>
  simp only[tiB,BC,CL,B8]at h;obtain⟨⟨⟨⟨⟨r,I⟩,H⟩,Z⟩,M⟩,Y⟩:=h;split at r
  ·rename_i fs u;obtain⟨R,h8⟩:=qi r;refine⟨⟨fs,u,R,λi off n agg hx=>?_⟩,fJ I,xX H,?_,Y⟩
   ·obtain⟨q1,f,q2,q3⟩:=h8 i off n agg hx;exact⟨q1,f,by simpa using q2,q3⟩
   ·intro hf;rcases M with M|M
    ·rw[hf]at M;cases M
    ·exact Ax M Z hf
  ·cases r
def tlB (P:Program):List (TypeId×TI)->Bool
 |[]=>true
 |x::l=>tiB P x.1 x.2&&tlB P l
theorem hI:∀ {l:List (TypeId×TI)},tlB P l=true->TOk P (fW l):=by
 intro l h;refine sn ?_;induction l with
 |nil=>simp
 |cons x l u =>
  simp only[tlB,BC]at h;intro y r;rcases BO.1 r with rfl|r
  ·exact Bq h.1
  ·exact u h.2 y r
end
section
variable {P:Program} {T:TypeId->TI}
theorem nB (hT:TOk P T)(R:P.follows .mixedOrders=true){f:FuncId}{fn:Func}(hf:P.funcs[f]?=some fn)(hn:(fn.name== "runtime.NumGoroutine")=false) {E:TypeId} {e:Ty} {rs:List RK} {r:Bool}
  {a0:ab [PK.rd (.list false E e)]->Option (ai rs×ah [PK.rd (.list false E e)])} {R0 A B C:Code} {rid:Nat} {o0 o1:Oper} {d0 q t t':Nat} {x0:Operand} {L:List (Nat×List (Nat×List Coe))} {K:Nat}
  (hb:fn.body=some (.seq R0 (.seq (.seq (.region rid #[o0,o1] false) (.cond (.tmp q) A B)) C))) (bl:o0.guard=none) (d2:o0.op=.move x0) (b5:o1.op=.binOp .eql t (.tmp d0) (.const (.slice none 0 0)) t') (cy:o1.guard=none) (b1:o1.dst=some q)
  {E':TypeId} (ht:P.underlying t=some (.slice E'))
  (a4:(dO fn.ntmps [] (.seq R0 (.seq (.seq (.region rid #[o0,o1] false) (.cond (.tmp q) A B)) C))&&Cg 1 fn.ntmps&&Cg fn.ntmps GH&&qn rs&&dp L [] (.seq R0 (.seq (.seq (.region rid #[o0,o1] false) (.cond (.tmp q) A B)) C)))=true)
  {S1:ab [PK.rd (.list false E e)]->St}
  (ba:∀ x,evK [] T L K R0 (av (dj 0 [PK.rd (.list false E e)] x)) (ql (λs _=>act [] T o0 s (λU=>some (ac U s))) (λ_ _=>none))=some (S1 x))
  (Y:∀ x,one (S1 x) (.tmp d0)=.ro true E e x.1)
  (hF:∀ x,evK [] T L K (.seq (.cond (.tmp q) A B) C) (ac (cj (S1 x) [] q .one [.bool false]) (S1 x)) (de T [PK.rd (.list false E e)] rs r fn.results.toList)=a0 x)
  (cp:∀ x y,x.1=[]->a0 x=some y->evK [] T L K (.seq (.cond (.tmp q) A B) C) (ac (cj (S1 x) [] q .one [.bool true]) (S1 x)) (de T [PK.rd (.list false E e)] rs r fn.results.toList)=some y) :
  bO P ⟨f,[PK.rd (.list false E e)],rs,r,a0⟩:=by
 refine⟨dn hf hn hb,λw ro x vs u y O c2 c1 hy=>?_⟩;simp only[BC]at a4;obtain⟨⟨⟨⟨h1,h2⟩,h3⟩,h4⟩,h5⟩:=a4;have h2:=Bx h2;have h3:=Bx h3;have hV:ax (fZ w ro [PK.rd (.list false E e)] vs u fn.ntmps):=⟨λk hk=>c2 k hk,h3⟩;have c0:=vf (P:=P) (ro:=ro) O c1 h2 h3;have hnoΓ:∀ c∈([]:List Ctr),bO P c:=by simp
 have b0:∀ z∈(fZ w ro [PK.rd (.list false E e)] vs u fn.ntmps).fixb,z.1∈([]:List Nat):=λz hz=>jY (ps:=[PK.rd (.list false E e)]) hz
 have Z:∀ z∈(fZ w ro [PK.rd (.list false E e)] vs u fn.ntmps).fixt,z.1∈([]:List Nat):=λz hz=>jX (ps:=[PK.rd (.list false E e)]) hz
 simp only[dO,BC]at h1;simp only[dp,BC]at h5;obtain⟨c5,⟨b9,cu⟩,c4⟩:=h1;obtain⟨c6,⟨_,cc⟩,cx⟩:=h5;refine calls_of_wp hf hb ?_;rw[Cs];generalize d1:bodyPost P fn (tq ⟨f,[PK.rd (.list false E e)],rs,r,a0⟩ w ro vs u y)=Q;have hQ:∀ ex s1,de T [PK.rd (.list false E e)] rs r fn.results.toList ex s1=some y->∀ a H,Rel P (fZ w ro [PK.rd (.list false E e)] vs u fn.ntmps) s1 a H->Q (exOf ex) a H:=by
  intro ex s1 b3 a' H J;obtain⟨c3,v,M,b2⟩:=xU (c:=⟨f,[PK.rd (.list false E e)],rs,r,a0⟩) hT h4 hV O h2 b3 J;have cb:a'.defers=[]:=by obtain⟨W,J⟩:=J;exact J.df
  subst d1;rcases c3 with rfl|rfl <;> exact⟨cb,v,M,b2⟩
 have a9:∀ (b:Bool),evK [] T L K (.seq (.cond (.tmp q) A B) C) (ac (cj (S1 x) [] q .one [.bool b]) (S1 x)) (de T [PK.rd (.list false E e)] rs r fn.results.toList)=some y ->
   ∀ a H,Rel P (fZ w ro [PK.rd (.list false E e)] vs u fn.ntmps) (ac (cj (S1 x) [] q .one [.bool b]) (S1 x)) a H->(Code.cond (.tmp q) A B).wp P (Exit.then (C.wp P Q) Q) a H:=by
  intro b a6 a H J;refine sb hV hT hnoΓ R b0 (nt:=fn.ntmps) (fix:=[]) rfl Z (.cond (.tmp q) A B) (by simp only[dO,BC];exact cu) (by simp only[dp,BC];exact cc) _ _ y _ a6 (λex s1 I a H J=>?_) a H J;cases ex with
  |normal=>exact sb hV hT hnoΓ R b0 (nt:=fn.ntmps) (fix:=[]) rfl Z C c4 cx s1 _ y Q I hQ a H J
  |exit bx=>exact hQ (.exit bx) s1 I a H J
  |ret=>exact hQ .ret s1 I a H J
 have a3:∀ (i:Nat) (o:Oper),(#[o0,o1]:Array Oper)[i]?=some o->ln fn.ntmps [] #[o0,o1] o=true:=λi o hi=>by
  simp only[BX]at b9;exact b9 o (by simpa using Cc hi)
 refine wp_seq (sb hV hT hnoΓ R b0 (nt:=fn.ntmps) (fix:=[]) rfl Z R0 c5 c6 _ _ (S1 x) _ (ba x) (λex s0 I a H J=>?_) _ _ c0);cases ex with
 |exit bx=>cases I
 |ret=>cases I
 |normal =>
  have I:act [] T o0 s0 (λU=>some (ac U s0))=some (S1 x):=I;rw[tz]at I;obtain⟨U,hU,I⟩:=Bz.1 I;simp only[BA]at I;refine wp_seq (wp_seq (wp_region ?_));have a2:C3 (#[o0,o1]:Array Oper).size=[0,1]:=rfl;rw[a2,wpOps_cons];refine wu hV hT hnoΓ (ops:=#[o0,o1]) (i:=0) (o:=o0) rfl (mr rfl Z (a3 0 o0 rfl)) (λj d3 hg=>by rw[bl]at hg;cases hg) (U:=U) (by unfold mo;rw[bl];exact hU) J (λa1 w1 X=>?_);rw[I]at X;rw[wpOps_cons];obtain⟨W1,X⟩:=X;have a5:bL (fZ w ro [PK.rd (.list false E e)] vs u fn.ntmps) o1:=mr rfl Z (a3 1 o1 rfl);obtain⟨h7,_,_,_,_⟩:=bq X (.tmp d0) (by rw[Y x];simp);rw[Y x]at h7;obtain⟨A',bb,hv,_,cw⟩:=h7;have hv:a1.eval (.tmp d0)=.slice A' x.1.length bb:=by simpa using hv
  have b4:A'=none->x.1=[]:=λhA=>by
   cases hx:x.1 with
   |nil=>rfl
   |cons y ys =>
    obtain⟨g,o,bn,_⟩:=cw (by rw[hx];simp);rw[hA]at bn;cases bn
  have a6:evK [] T L K (.seq (.cond (.tmp q) A B) C) (ac (cj (S1 x) [] q .one [.bool A'.isNone]) (S1 x)) (de T [PK.rd (.list false E e)] rs r fn.results.toList)=some y:=by
   cases hA:A' with
   |none=>exact cp x y (b4 hA) hy
   |some ad=>exact (hF x).trans hy
  have M:(execOp a1.eval o1).run P w1=.ok (.value (.bool A'.isNone)) w1:=by
   have:=Lib.run_eql_slice_nil (P:=P) w1 t E' A' x.1.length bb 0 0 ht;have hc:a1.eval (.const (.slice none 0 0))=.slice none 0 0:=rfl;simp[execOp,b5,hv,hc,eqGuard,this]
  unfold wpOp;have hi:(#[o0,o1]:Array Oper)[1]?=some o1:=rfl;simp only[hi];have hw:Region.wanted o1 (yielded #[o0,o1] a1.tmps)=true:=by simp[Region.wanted,cy]
  rw[if_pos hw];refine .inl (dV M ?_);rw[b1];show Exit.then _ _ _ _ _;exact a9 _ a6 _ _ (X.putLs hV q (a5 q b1).1 (a5 q b1).2 _ .one [.bool A'.isNone] (.bool A'.isNone) [.bool A'.isNone] (CD _) rfl ⟨⟨rfl,id,rfl⟩,trivial⟩)
end
open Go.ChangeShapes Go.WideShapes
section
variable {H:Type} {enc:TypeId×Value->H} {P:Program}
theorem mA (J:laidOutB P=true){W W':World}{M:Nat->Bool}:∀ {y:List TypeId} {I:List Value} {ds:List (DataW H)} {ps:List MemPlace},(∀ t∈y,P.readableRec t=true/\t<P.types.size) ->
  DataW.TrodAll enc P W 0 (λ_=>true) true y I ds ps->(∀ x∈ps,W.sameAt W' x)->(∀ x∈ps,M x.block=true)->DataW.TrodAll enc P W' 0 M true y I ds ps
 |[],[],[],_,_,h,_,_=>h
 |[],[],_::_,_,_,h,_,_=>h.elim
 |[],_::_,_,_,_,h,_,_=>h.elim
 |_::_,[],_,_,_,h,_,_=>h.elim
 |_::_,_::_,[],_,_,h,_,_=>h.elim
 |t::y,v::I,d::ds,ps,z,⟨p,q,R,Y,e⟩,O,u=>by
  subst e;refine⟨p,q,WideElems.Trod_stays J (z t (BG ..)).1 (z t (BG ..)).2 R (λx r=>O x (BD _ r)) (λx r=>u x (BD _ r)),
   mA J (λX Z=>z X (BF _ Z)) Y (λx r=>O x (BE _ r)) (λx r=>u x (BE _ r)),rfl⟩
theorem rR (hl:laidOutB P=true){f:Func}{s:ChangeSpec}{y a1 J O:Bool}{W W':World}{u:Array Value}{ds gs:List (DataW H)}{r:List MemPlace}
  (hW:DataW.Whole enc P f.params.toList s.vars y W u.toList ds gs r) (I:s.vars=[]) (hb:Below W.heap.size W W') (a0:∀ t∈f.params.toList,P.readableRec t=true/\t<P.types.size)
  {tb:TypeId} (Y:f.resultTypes=#[tb]) (z:P.underlying tb=some .bool) (a2:(s.fn H (ds++gs)).results=[.lit (.bool true)]) (R:(s.fn H (ds++gs)).args=ds) (a4:(s.fn H (ds++gs)).vars=[]) :
  s.post enc P f y a1 J O W u (.bool true) W':=by
 have Z:∀ p∈r,p.block<W.heap.size:=λp hp=>by simpa using hW.lt p hp
 have a9:=hW;obtain⟨p,q,hA,hV,e,hz,hn⟩:=hW;rw[I]at hV;obtain⟨rfl,rfl⟩:=trodVars_none hV;simp only[List.append_nil]at e;subst e;have X:∀ x∈r,W.sameAt W' x:=λx hx=>hb.same (Z x hx)
 have a6:(Value.bool true).resultList f.resultTypes.size=[.bool true]:=by rw[Y];rfl
 have hr:∀ (b:Nat) (M:Nat->Bool) (hd:Bool),DataW.TrodAll enc P W' b M hd f.resultTypes.toList ((Value.bool true).resultList f.resultTypes.size) (s.fn H (ds++[])).results []:=by
  intro b M hd;rw[a6,a2,Y];exact trodAll_mk1 (shut_bool z true)
 have ha:∀ (M:Nat->Bool),(∀ x∈r,M x.block=true)->DataW.TrodAll enc P W' 0 M true f.params.toList u.toList (s.fn H (ds++[])).args r:=by
  intro M a5;rw[R];exact mA hl a0 hA X a5
 have hv:∀ (M:Nat->Bool),DataW.TrodVars enc P W' M s.vars (s.fn H (ds++[])).vars []:=by
  intro M;rw[I,a4];rfl
 refine⟨ds,[],r,[],r,[],a9,hr _ _ _,ha _ (λx hx=>by simpa using Z x hx),hv _,hb.frame _,λ_=>⟨ok_one Y rfl (okWide_bool_mk z true),_,_,([]++r)++[],⟨[]++r,[],trodAll_append (ha _ (λ_ _=>rfl)) (hr _ _ _),hv _,rfl,?_,?_⟩,?_⟩⟩
 ·intro b off hp;have hp:MemPlace.cell b off∈r:=by simpa using hp
  rw[hb.frozen (p:=⟨b,off,none⟩) (Z _ hp)];exact hz b off hp
 ·intro a3;have:=hn a3;simpa using this
 ·intro x hx _;simpa using hx
end
section
variable {H:Type} {enc:TypeId×Value->H} {P:Program} {w:World} {base:Nat} {spare:Nat->Bool} {held:Bool}
def shF (P:Program)(g:Ty->TypeId->Bool):List Field->Nat->Ty->Bool
 |[],_,_=>false
 |[f],off,b=>BJ f.offset off&&BJ (P.cellsOf f.type) b.cells&&g b f.type
 |f::r,off,.pair b c=>BJ f.offset off&&BJ (P.cellsOf f.type) b.cells&&g b f.type&&shF P g r (off+b.cells) c
 |_,_,_=>false
def shT (P:Program):Nat->Ty->TypeId->Bool
 |0,_,_=>false
 |n+1,a,t=>match a with
  |.int k=>(match P.underlying t with|some (.int k')=>decide (k'=k)|_=>false)
  |.bool=>(match P.underlying t with|some .bool=>true|_=>false)
  |.str=>(match P.underlying t with|some .string=>true|_=>false)
  |.pair b c=>(match P.underlying t with|some (.struct fs)=>shF P (shT P n) fs.toList 0 (.pair b c)&&BJ (P.cellsOf t) (b.cells+c.cells)|_=>false)
  |.list _ E e=>(match P.underlying t with|some (.slice E')=>BJ E' E&&BJ (P.cellsOf E) e.cells&&CZ 0 e.cells&&shT P n e E|_=>false)
  |.unit=>false
  |.hdr=>false
def Sm:(a:Ty)->a.den->Prop
 |.int k,n=>(Lit.int k n).wf=true
 |.pair a b,x=>Sm a x.1/\Sm b x.2
 |.list _ _ e,r=>r.length<=maxLen/\∀ x∈(r:List e.den),Sm e x
 |.bool,_=>True
 |.str,s=>s.size<=maxLen
 |.unit,_=>True
 |.hdr,_=>True
theorem kN {α β:Type}{f:α->Option β}:∀ (l:List α) (r:List β),l.mapM f=some r->r.length=l.length/\∀ (i:Nat) (x:α),l[i]?=some x->∃ y,f x=some y/\r[i]?=some y
 |[],r,h=>by
  simp at h;subst h;exact⟨rfl,λi x X=>by simp at X⟩
 |x::l,r,h=>by
  rw[Cf]at h;cases I:f x with
  |none=>rw[I]at h;cases h
  |some y =>
   rw[I]at h;cases J:l.mapM f with
   |none=>rw[J]at h;cases h
   |some R =>
    rw[J]at h;cases h;obtain⟨M,O⟩:=kN l R J;refine⟨by simp[M],λi u z=>?_⟩;cases i with
    |zero=>simp at z;subst z;exact⟨y,I,rfl⟩
    |succ i=>simpa using O i u (by simpa using z)
theorem rK {a:Addr}{n:Nat}{cs:List Value}(h:w.cells? base a n=some cs):base<=a.block/\cs.length=n/\∀ i u,cs[i]?=some u->w.cell? (a.add i)=some u:=by
 unfold World.cells? at h;split at h
 ·rename_i R;obtain⟨z,J⟩:=kN _ _ h;refine⟨R,by simpa using z,λi u r=>?_⟩;have M:i<n:=by have:=(BK.1 r).1;rw[z]at this;simpa using this
  obtain⟨y,O,I⟩:=J i i (by simp[M]);rw[r]at I;cases I;exact O
 ·cases h
theorem oF {g:Ty->TypeId->Bool}{rd:TypeId->List Value->Option (DataW H×List MemPlace)}
  (Z:∀ b t,g b t=true->∀ cs d,rd t cs=some d->∃ x:b.den,Rd w (λk=>k<w.heap.size) b x cs/\Sm b x) :
  ∀ (fs:List Field) (off:Nat) (b:Ty),shF P g fs off b=true->∀ (cs:List Value),cs.length=off+b.cells ->
   (∀ f∈fs,∃ d,rd f.type ((cs.drop f.offset).take (P.cellsOf f.type))=some d)->∃ x:b.den,Rd w (λk=>k<w.heap.size) b x (cs.drop off)/\Sm b x
 |[],_,_,h=>by simp[shF]at h
 |[f],off,b,h=>by
  intro cs u M;simp only[shF,BC]at h;obtain⟨⟨r,I⟩,Y⟩:=h;have r:=BH r;have I:=BH I;obtain⟨d,J⟩:=M f (BG ..);rw[r,I,List.take_of_length_le (by simp;omega)]at J;exact Z b f.type Y _ d J
 |f::z::fs,off,.pair b c,h=>by
  intro cs u M;simp only[shF,BC]at h;obtain⟨⟨⟨r,I⟩,Y⟩,h4⟩:=h;have r:=BH r;have I:=BH I;have u:cs.length=off+(b.cells+c.cells):=u;obtain⟨d,J⟩:=M f (BG ..);rw[r,I]at J;obtain⟨x,hx,R⟩:=Z b f.type Y _ d J;obtain⟨y,hy,X⟩:=oF Z (z::fs) (off+b.cells) c h4 cs (by omega) (λf0 O=>M f0 (BF _ O));refine⟨(x,y),⟨_,_,?_,hx,hy⟩,R,X⟩;rw[<- Cd,List.take_append_drop]
 |f::z::fs,off,.int _,h=>by simp[shF]at h
 |f::z::fs,off,.bool,h=>by simp[shF]at h
 |f::z::fs,off,.str,h=>by simp[shF]at h
 |f::z::fs,off,.unit,h=>by simp[shF]at h
 |f::z::fs,off,.list _ _ _,h=>by simp[shF]at h
 |f::z::fs,off,.hdr,h=>by simp[shF]at h
theorem oG {β:Type}(Q:Nat->β->Prop):∀ (n:Nat),(∀ i,i<n->∃ x,Q i x)->∃ u:List β,u.length=n/\∀ i x,u[i]?=some x->Q i x
 |0,_=>⟨[],rfl,λi x h=>by simp at h⟩
 |n+1,h=>by
  obtain⟨u,I,O⟩:=oG Q n (λi J=>h i (by omega));obtain⟨x,M⟩:=h n (by omega);refine⟨u++[x],by simp[I],λi y r=>?_⟩;by_cases J:i<n
  ·rw[Bv (by omega)]at r;exact O i y r
  ·have z:i<(u++[x]).length:=(BK.1 r).1;have:i=n:=by simp at z;omega
   subst this;rw[BZ (by omega),I,Nat.sub_self]at r;simp at r;subst r;exact M
theorem qM:∀ (n:Nat) (a:Ty) (t:TypeId),shT P n a t=true->∀ (I:Nat) (cs:List Value) (d:DataW H×List MemPlace),DataW.trod enc P w base spare held I t cs=some d ->
    ∃ x:a.den,Rd w (λk=>k<w.heap.size) a x cs/\Sm a x
  |0,_,_,h=>by simp[shT]at h
  |n+1,a,t,h=>by
    intro I cs d z;cases I with
    |zero=>simp[DataW.trod]at z
    |succ I =>
      cases a with
      |int k =>
        simp only[shT]at h;split at h
        · rename_i k' O
          have hk:=of_decide_eq_true h;subst hk;simp only[DataW.trod,O]at z;split at z <;> first|(rename_i M;cases M;done)|skip
          all_goals first
            | (rename_i k1 k2 m J
               cases J;split at z
               · rename_i hw
                 obtain⟨rfl,hw⟩:=hw;exact⟨m,rfl,hw⟩
               · cases z)
            |cases z
        · cases h
      |bool =>
        simp only[shT]at h;split at h
        · rename_i O
          simp only[DataW.trod,O]at z;split at z <;> first|(rename_i M;cases M;done)|skip
          all_goals first
            |(rename_i b J;exact⟨b,rfl,trivial⟩)
            |cases z
        · cases h
      |str =>
        simp only[shT]at h;split at h
        · rename_i O
          simp only[DataW.trod,O]at z;split at z <;> first|(rename_i M;cases M;done)|skip
          all_goals first
            | (rename_i b J
               split at z
               · rename_i hb
                 exact⟨b,rfl,hb⟩
               · cases z)
            |cases z
        · cases h
      |unit=>simp[shT]at h
      |hdr=>simp[shT]at h
      |pair b c =>
        simp only[shT]at h;split at h
        · rename_i fs O
          simp only[BC]at h;obtain⟨h1,X⟩:=h;have X:=BH X;simp only[DataW.trod,O]at z;split at z
          · rename_i a2
            simp only[BI]at z;obtain⟨ys,b4,_⟩:=z;obtain⟨h3,h4⟩:=kN _ _ b4;have:=oF (w:=w) (rd:=DataW.trod enc P w base spare held I) (λb t hb cs d z=>qM n b t hb I cs d z) fs.toList 0 (.pair b c) h1 cs (by rw[a2,X,CE];rfl) (λf hf=>by
              obtain⟨i,hi,e⟩:=Cl hf;obtain⟨y,h5,_⟩:=h4 i f (by rw[BR hi,e]);exact⟨y,h5⟩)
            simpa using this
          · cases z
        · cases h
      |list m E e =>
        simp only[shT]at h;split at h
        · rename_i E' O
          simp only[BC]at h;obtain⟨⟨⟨h1,X⟩,h3⟩,h4⟩:=h;have h1:=BH h1;subst h1;have X:=BH X;have h3:0<e.cells:=by simpa[CG]using h3
          simp only[DataW.trod,O]at z;split at z <;> first|(rename_i M;cases M;done)|skip
          all_goals first
            |cases z;done
            |skip
          · exact⟨[],Rd.nil w _ m _ e,Cx _,by simp⟩
          · rename_i E2 R a9 b2 J
            cases J;split at z
            · rename_i hc
              obtain⟨b1,bl,bb⟩:=hc;obtain⟨bn,a5,_⟩:=Bz.1 z;obtain⟨h5,h6⟩:=kN _ _ a5;have b9:∀ i,i<a9->∃ x:e.den,∃ c,w.cells? base (R.add (i*e.cells)) e.cells=some c/\Rd w (λk=>k<w.heap.size) e x c/\Sm e x:=by
                intro i hi;obtain⟨y,h7,_⟩:=h6 i i (by simp[hi]);obtain⟨c,h8,h9⟩:=Bz.1 h7;rw[X]at h8;obtain⟨x,hx,b3⟩:=qM n e _ h4 I c y h9;exact⟨x,c,h8,hx,b3⟩
              obtain⟨xs,b5,Y⟩:=oG (λi (x:e.den)=>∃ c,w.cells? base (R.add (i*e.cells)) e.cells=some c/\Rd w (λk=>k<w.heap.size) e x c/\Sm e x) a9 b9;refine⟨xs,⟨some R,b2,by rw[b5],by omega,λhp=>?_⟩,by omega,λx hx=>?_⟩
              · have b0:0<xs.length:=hp
                obtain⟨c,Z,a3,_⟩:=Y 0 xs[0] (BR b0);obtain⟨_,ba,a1⟩:=rK Z;have h0:0<c.length:=by omega
                have r:=a1 0 c[0] (BR h0);have e0:(R.add (0*e.cells)).add 0=R:=by simp[Addr.add]
                rw[e0]at r;have a0:R.spot=none/\R.block<w.heap.size:=by
                  unfold World.cell? at r;split at r
                  · rename_i hh
                    split at r
                    · cases r
                    · rename_i hs
                      refine⟨by simpa using hs,(CQ.1 hh).1⟩
                  · cases r
                obtain⟨g,o,sp⟩:=R;obtain⟨a6,a4⟩:=a0;simp only at a6 a4;subst a6;refine⟨g,o,rfl,a4,λj x hj=>?_⟩;obtain⟨c,Z,a3,_⟩:=Y j x hj;obtain⟨_,_,a1⟩:=rK Z;refine⟨c,a3,λi u hi=>?_⟩;have:=a1 i u hi
                rwa [eU,eU]at this
              · obtain⟨j,hj,e1⟩:=Cl hx
                obtain⟨c,_,_,hs⟩:=Y j x (by rw[BR hj,e1]);exact hs
            · cases z
        · cases h
end
section
variable {H:Type} {enc:TypeId×Value->H} {P:Program} {w:World}
theorem zg {n:Nat}{a:Ty}{t:TypeId}(r:shT P (n+1) a t=true){v:Value}{d:DataW H}{p:List MemPlace}(M:DataW.Trod enc P w 0 (λ_=>true) true t v d p){base:Nat}(u:C6 P w .any base t v) :
  ∃ x:a.den,(∃ I,db a.isAgg v I/\Rd w (λk=>k<w.heap.size) a x I)/\Sm a x:=by
 obtain⟨z,M⟩:=M;obtain⟨x,O,J⟩:=qM (n+1) a t r z _ _ M;refine⟨x,⟨v.cells.toList,?_,O⟩,J⟩;cases a with
 |int k =>
  simp only[shT]at r;split at r
  ·rename_i Y y;obtain⟨n,rfl⟩:=okWide_int y u;rfl
  ·cases r
 |bool =>
  simp only[shT]at r;split at r
  ·rename_i y;obtain⟨n,rfl⟩:=okWide_bool y u;rfl
  ·cases r
 |str =>
  simp only[shT]at r;split at r
  ·rename_i y;obtain⟨n,rfl⟩:=okWide_string y u;rfl
  ·cases r
 |list m E e =>
  simp only[shT]at r;split at r
  ·rename_i E' y;obtain⟨A,X,R,rfl⟩:=okWide_slice y u;rfl
  ·cases r
 |unit=>simp[shT]at r
 |hdr=>simp[shT]at r
 |pair b c =>
  simp only[shT]at r;split at r
  ·rename_i Z y;obtain⟨I,rfl,_⟩:=okWide_struct y u;show Value.agg I=.agg (Value.agg I).cells.toList.toArray;simp[Value.cells]
  ·cases r
def Sms:(as:List Ty)->ab (as.map .rd)->Prop
 |[],_=>True
 |a::as,x=>Sm a x.1/\Sms as x.2
def tQ (P:Program):List Ty->List TypeId->Bool
 |[],[]=>true
 |a::as,t::r=>shT P 64 a t&&tQ P as r
 |_,_=>false
theorem rL {pr:Nat->Prop}:∀ (as:List Ty) (I:List TypeId) (u:List Value) (ds:List (DataW H)) (ps:List MemPlace),tQ P as I=true->DataW.TrodAll enc P w 0 (λ_=>true) true I u ds ps ->
  (∃ r,∀ (j:Nat) (t:TypeId) (v:Value),I[j]?=some t->u[j]?=some v->C6 P w .any r t v)->∃ x:ab (as.map .rd),c9 P w (λk=>k<w.heap.size) pr (as.map .rd) x u (as.map λ_=>[])/\Sms as x
 |[],[],[],[],_,_,_,_=>⟨(),⟨rfl,rfl⟩,trivial⟩
 |[],[],[],_::_,_,_,h,_=>h.elim
 |[],[],_::_,_,_,_,h,_=>h.elim
 |[],_::_,_,_,_,h,_,_=>by simp[tQ]at h
 |_::_,[],_,_,_,h,_,_=>by simp[tQ]at h
 |_::_,_::_,[],_,_,_,h,_=>h.elim
 |_::_,_::_,_::_,[],_,_,h,_=>h.elim
 |a::as,t::I,v::u,d::ds,ps,O,⟨p,q,X,h2,_⟩,⟨r,z⟩=>by
  simp only[tQ,BC]at O;obtain⟨x,R,J⟩:=zg (n:=63) O.1 X (z 0 t v rfl rfl);obtain⟨y,Z,M⟩:=rL as I u ds q O.2 h2 ⟨r,λj Y v' h3 h4=>z (j+1) Y v' (by simpa using h3) (by simpa using h4)⟩;exact⟨(x,y),⟨v,u,[],_,rfl,rfl,⟨rfl,R⟩,Z⟩,J,M⟩
theorem zh (tys:List Ty):(tys.map λ_=>([]:List Nat)).flatten=[]:=by
 induction tys with
 |nil=>rfl
 |cons a tys r=>simp
theorem xY {f:FuncId}{tys:List Ty}{y:Bool}{O:ab (tys.map PK.rd)->Option (ai [.v .bool]×ah (tys.map PK.rd))}(hs:bO P ⟨f,tys.map .rd,[.v .bool],y,O⟩){x:ab (tys.map .rd)}{Z:List Value}{o:ah (tys.map .rd)}
  (hx:c9 P w (λk=>k<w.heap.size) (λk=>k<w.heap.size) (tys.map .rd) x Z (tys.map λ_=>[])) (hd:O x=some ((true,()),o)):Calls P f Z.toArray w (λe w'=>e=.returned (.bool true)/\Below w.heap.size w w'):=by
 have R:=zh tys;have:=hs.2 w (λk=>k<w.heap.size) x Z _ _ (hx.mono (λ_ h=>h) (λk M=>⟨M,by rw[R];simp⟩)) (λk M=>⟨M,by rw[R];simp⟩) (by rw[R];exact CS) hd;refine this.mono λe w' hp=>?_
 obtain⟨v,us,N,a6,a5,rfl,r,a1,a2,X,a0,Y,_,_,J,_,_⟩:=hp;refine⟨?_,⟨a2,X,a0,a1,λk M=>Y k M (by rw[R];simp)⟩⟩;obtain⟨u,a4,b,a3,e1,e2,⟨cs,z,I⟩,e3,e4⟩:=J;subst e3;subst e1;have r:v=u:=r;subst r;have z:cs=[v]:=z;have I:cs=[.bool true]:=I.1;rw[z]at I;simp only[Ca,and_true]at I;rw[I]
end
end Go.Proofs.YtadlacffdemoiaaGreatEv
