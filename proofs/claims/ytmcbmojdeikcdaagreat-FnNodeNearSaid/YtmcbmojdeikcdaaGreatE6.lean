/- One operation looks at some slots alone. -/
import Derived.Test.YtmcbmojdeikcdaaGreatE3
import Derived.Laws.StructEq
import Derived.Lib.SliceRun
import Derived.ProofKit
set_option linter.unusedVariables false
set_option linter.unusedSimpArgs false
open Array renaming getElem?_eq_getElem->AM,getD_eq_getD_getElem?->AN,replicate->Aj,all_eq_true_iff_forall_mem->Av,getElem?_eq_some_iff->A3,getElem?_append_left->A4,getElem?_replicate->BA,mem_of_getElem?->BG,length_toList->BM,mem_append->BY
open Bool renaming and_eq_true->AC,not_eq_true'->Al,or_eq_true->Ay,false_eq_true->A1,and_false->A2,and_true->A9,true_and->BQ,not_false->Bg
open Classical renaming byContradiction->Ac
open Go.ByteArray renaming toList_eq->BO
open Go.Result renaming andThen_ok->Ap
open Go.Sem renaming run_bind->Aw,run_pure->BV
open Go.Value renaming okWide->Bi
open List renaming mem_append->AB,mem_append_left->AD,mem_append_right->AE,mem_cons_of_mem->AF,mem_cons_self->AG,getElem?_eq_some_iff->AK,mem_map->AL,mem_cons->AO,getD_eq_getElem?_getD->AP,flatten_cons->AQ,getElem?_eq_getElem->AR,mem_flatMap->AT,count_append->AU,mem_singleton_self->AV,count_pos_iff->AW,all_eq_true->AX,map_cons->AY,getElem?_append_right->AZ,getElem?_append_left->Ab,append_assoc->Ae,nil_append->Ag,mem_singleton->Ah,nodup_cons->Ai,length_cons->An,nodup_append->Ao,mem_filter->At,any_eq_true->Ax,map_append->Az,count_cons->A0,nodup_nil->A5,count_eq_zero->A6,any_eq_false->A7,all_cons->A8,getElem?_cons_succ->BC,getElem?_eq_none->BF,drop_drop->BH,mapM_cons->BJ,map_congr_left->BL,countP_eq_zero->BN,getElem_of_mem->BP,set_cons_succ->BR,find?_eq_none->BT,getElem?_map->BU,size_toArray->BW,mem_toArray->BX,countP_cons->BZ,foldl_cons->Bd,range->Bf,map_nil->Bh
open List.cons renaming injEq->BE
open Nat renaming eq_of_beq_eq_true->AH,beq->AJ,le_of_ble_eq_true->Ad,lt_succ_self->Aq,zero_add->Ar,blt_eq->Au,blt->BD,le_refl->BI,ble->BK,lt_of_lt_of_le->BS,zero_le->Bb,strongRecOn->Be
open Option renaming map_eq_some_iff->AI,map_some->Aa,bind_eq_some_iff->Af,bind_assoc->Ak,bind_some->Am,bind_none->BB,getD_some->Ba
open Option.some renaming injEq->AA,inj->Bc
open Prod.mk renaming injEq->AS
namespace Go.Proofs.YtmcbmojdeikcdaaGreatEv
open Go Go.RowKit
section
variable {P:Program} {V:Env} {Γ:List Ctr} {T:TypeId->TI} {st st':St} {o:Oper} {R:Type} {κ:Upd->Option R} {r:R}
theorem fN {α β:Type}(b:Bool)(x y:Option α)(f:α->Option β):(bif b then x else y).bind f=bif b then x.bind f else y.bind f:=by cases b <;> rfl
theorem uI {b:Option (Bool×Nat×Nat)}{U:Upd}:iX st b U κ=(iX st b U some).bind κ:=by
 unfold iX;split
 ·split
  ·simp only[Ak];congr 1;funext y;split <;> rfl
  ·rfl
 ·rfl
theorem uJ {d:Nat}{f:FuncId}{xs:List (aI×List Leaf)}:iz Γ st d f xs κ=(iz Γ st d f xs some).bind κ:=by
 unfold iz;cases kO Γ f with
 |none=>rfl
 |some c =>
  simp only[fM,Ak];congr 1;funext u;cases ng Γ (ac u.1 st) c.ps u.2.1 with
  |none=>rfl
  |some g =>
   simp only[fN,Ak,BB];congr 2;funext y;exact uI
theorem lE {st0:St}{U0:Upd}{d:Nat}{E:TypeId}{e:Ty}{bytes:Nat}{p:Bool}{xs:List e.den}{ks:List (Nat×Nat)}{y:Leaf}:dx st st0 U0 d E e bytes p xs ks y κ=(dx st st0 U0 d E e bytes p xs ks y some).bind κ:=by
 unfold dx;split
 ·simp only[fN,BB,Am]
 ·rfl
theorem sd {U0:Upd}{d:Nat}{E:TypeId}{e:Ty}{bytes:Nat}{x y:Leaf}:dQ st U0 d E e bytes x y κ=(dQ st U0 d E e bytes x y some).bind κ:=by
 unfold dQ;split
 ·split
  ·rw[fN,<- lE];rfl
  ·rfl
 ·exact lE
 ·rfl
theorem se {d:Nat}{E:TypeId}{e:Ty}{bytes:Nat}{x y:Leaf}:gJ st d E e bytes x y κ=(gJ st d E e bytes x y some).bind κ:=by
 unfold gJ;simp only[gq,fN,Ak,<- sd]
theorem mi {r j i off n:Nat}{p:Bool}{E:TypeId}{e:Ty}{xs:List e.den}{h:Option (Nat×Nat)}{ls:List Leaf}:fR st r j i off n p E e xs h ls κ=(fR st r j i off n p E e xs h ls some).bind κ:=by
 unfold fR;simp only[Ak];congr 1;funext old;split
 ·rw[fN];congr 1;split
  ·rfl
  ·simp only[fN,Am]
 ·rfl
theorem sf:act Γ T o st κ=(act Γ T o st some).bind κ:=by
 cases hop:o.op <;> simp only[act,wrU,hop] <;> (repeat' split) <;>
  (try simp only[fN,Ak,BB,Am]) <;> (try rfl) <;> (try exact uJ) <;> (try (rw[se];done)) <;> (try (rw[mi];done)) <;> (try (rw[<- mi];done))
theorem bm {q:Nat}(h:st' q=st q):∀ (U:Upd),ac U st' q=ac U st q
 |[]=>h
 |(r,c)::U=>by simp only[ac,bm h U]
theorem dw {x:Operand}(h:∀ t,x=.tmp t->st' t=st t):ar st' x=ar st x:=by
 cases x with
 |tmp t=>simp only[ar,h t rfl]
 |_=>rfl
theorem dk {x:Operand}(h:∀ t,x=.tmp t->st' t=st t):one st' x=one st x:=by
 unfold one;rw[dw h]
theorem ki:∀ (l1 l2:List Leaf),aw (l1++l2)=aw l1++aw l2
 |[],_=>rfl
 |l::l1,l2=>by cases l <;> simp[aw,ki l1 l2]
theorem aM (l:Leaf)(ls:List Leaf):aw (l::ls)=aw [l]++aw ls:=ki [l] ls
theorem eW:∀ (n:Nat) (ls:List Leaf) (q:Nat),q∈aw (ls.drop n)->q∈aw ls
 |0,_,_,h=>h
 |n+1,[],_,h=>h
 |n+1,l::ls,q,h=>by rw[aM];exact AE _ (eW n ls q h)
theorem ql:∀ (n:Nat) (ls:List Leaf) (q:Nat),q∈aw (ls.take n)->q∈aw ls
 |0,_,_,h=>by simp[aw]at h
 |n+1,[],_,h=>by simp[aw]at h
 |n+1,l::ls,q,h=>by
  rw[List.take_succ_cons,aM,AB]at h;rw[aM,AB];exact h.imp id (ql n ls q)
theorem pD:∀ {ls:List Leaf} {k:Nat} {l:Leaf},ls[k]?=some l->∀ q∈aw [l],q∈aw ls
 |[],_,_,h,_,_=>by simp at h
 |l'::ls,0,l,h,q,hq=>by simp at h;subst h;rw[aM];exact AD _ hq
 |l'::ls,k+1,l,h,q,hq=>by rw[aM];exact AE _ (pD (by simpa using h) q hq)
theorem iL {ks:List (Nat×Nat×Nat)}{ep:Nat}(h:∀ q∈EPO::ks.map (·.1),st' q=st q):br st' ks ep=br st ks ep:=by
 unfold br;rw[h EPO (AG ..)];congr 1;induction ks with
 |nil=>rfl
 |cons k ks ih =>
  rw[A8,A8,ih (λq hq=>h q (by simp at hq ⊢;rcases hq with hq|hq;exact .inl hq;exact .inr (.inr hq))),h k.1 (by simp)]
theorem gF {p:Bool}{ks:List (Nat×Nat×Nat)}{ep:Nat}{loc:Option (Nat×Nat×Nat)}{E:TypeId}{e:Ty}{xs:List e.den}:aw [.nal p ks ep loc E e xs]=EPO::ks.map (·.1):=by simp[aw]
theorem tH {p:Bool}{ks:List (Nat×Nat×Nat)}{ep:Nat}{a:Ty}{x:a.den}{off:Nat}:aw [.np p ks ep a x off]=EPO::ks.map (·.1):=by simp[aw]
theorem cf {l:Leaf}(h:∀ q∈aw [l],st' q=st q):aD st' l=aD st l:=by
 cases l with
 |al r j v=>simp only[aD,h r (by simp[aw])]
 |nal p ks ep loc E e xs=>rw[gF]at h;simp only[aD,iL h]
 |_=>rfl
theorem iV:∀ (a:Ty) (ls:List Leaf) (p:Bool) (x:a.den) (rest:List Leaf),aZ st a ls=some (p,x,rest)->∃ l1,ls=l1++rest
 |.int k,ls,p,x,rest,h=>by
  simp only[aZ]at h;split at h
  ·split at h
   ·simp at h;exact⟨[_],by rw[<- h.2.2];rfl⟩
   ·cases h
  ·cases h
 |.bool,ls,p,x,rest,h=>by
  simp only[aZ]at h;split at h
  ·simp at h;exact⟨[_],by rw[<- h.2.2];rfl⟩
  ·cases h
 |.str,ls,p,x,rest,h=>by
  simp only[aZ]at h;split at h
  ·simp at h;exact⟨[_],by rw[<- h.2.2];rfl⟩
  ·cases h
 |.unit,ls,p,x,rest,h=>by
  simp only[aZ,AA,AS]at h;exact⟨[],by rw[h.2.2];rfl⟩
 |.hdr,ls,p,x,rest,h=>by
  simp only[aZ]at h;split at h
  ·split at h
   ·simp at h;exact⟨[_],by rw[<- h.2.2];rfl⟩
   ·cases h
  ·cases h
 |.pair a b,ls,p,x,rest,h=>by
  simp only[aZ]at h;split at h
  ·rename_i q y ls1 ha;split at h
   ·rename_i q' z ls2 hb;simp at h;obtain⟨l1,e1⟩:=iV a ls q y ls1 ha;obtain⟨l2,e2⟩:=iV b ls1 q' z ls2 hb;exact⟨l1++l2,by rw[e1,e2,h.2.2,Ae]⟩
   ·cases h
  ·cases h
 |.list m E e,ls,p,x,rest,h=>by
  simp only[aZ]at h;split at h
  ·split at h
   ·simp at h;exact⟨[_],by rw[<- h.2.2];rfl⟩
   ·cases h
  ·cases h
theorem fO:∀ (a:Ty) (ls:List Leaf),(∀ q∈aw ls,st' q=st q)->aZ st' a ls=aZ st a ls
 |.int k,ls,h=>rfl
 |.bool,ls,h=>rfl
 |.str,ls,h=>rfl
 |.unit,ls,h=>rfl
 |.hdr,ls,h=>by
  cases ls with
  |nil=>rfl
  |cons l ls =>
   simp only[aZ];rw[cf (l:=l) (λq hq=>h q (by rw[aM];exact AD _ hq))]
 |.pair a b,ls,h=>by
  simp only[aZ,fO a ls h];cases ha:aZ st a ls with
  |none=>rfl
  |some x =>
   obtain⟨p,y,ls1⟩:=x;obtain⟨l1,e1⟩:=iV a ls p y ls1 ha;simp only;rw[fO b ls1 (λq hq=>h q (by rw[e1,ki];exact AE _ hq))]
 |.list m E e,ls,h=>by
  cases ls with
  |nil=>rfl
  |cons l ls =>
   simp only[aZ];rw[cf (l:=l) (λq hq=>h q (by rw[aM];exact AD _ hq))]
theorem d7 {a:Ty}{ls:List Leaf}(h:∀ q∈aw ls,st' q=st q):cE st' a ls=cE st a ls:=by
 unfold cE;rw[fO a ls h]
theorem mj {e:Ty}:∀ (n:Nat) (ls:List Leaf),(∀ q∈aw ls,st' q=st q)->eU st' e n ls=eU st e n ls
 |0,_,_=>rfl
 |n+1,ls,h=>by
  simp only[eU,d7 (ls:=ls.take e.cells) (λq hq=>h q (ql _ _ q hq)),mj n (ls.drop e.cells) (λq hq=>h q (eW _ _ q hq))]
theorem is:∀ {ls:List Leaf},(∀ q∈aw ls,st' q=st q)->bB st' ls=bB st ls
 |[],_=>rfl
 |l::ls,h=>by
  have ih:=is (ls:=ls) (λq hq=>h q (by rw[aM];exact AE _ hq));cases l with
  |al r j v=>simp only[bB,ih,cf (l:=.al r j v) (λq hq=>h q (by rw[aM];exact AD _ hq))]
  |nal p ks ep loc E e xs=>simp only[bB,ih,cf (l:=.nal p ks ep loc E e xs) (λq hq=>h q (by rw[aM];exact AD _ hq))]
  |_=>simpa[bB]using ih
theorem nK:∀ {ls:List Leaf},(∀ q∈aw ls,st' q=st q)->bX st' ls=bX st ls
 |[],_=>rfl
 |l::ls,h=>by
  have ih:=nK (ls:=ls) (λq hq=>h q (by rw[aM];exact AE _ hq));cases l with
  |al r j v=>simp only[bX,ih,cf (l:=.al r j v) (λq hq=>h q (by rw[aM];exact AD _ hq))]
  |_=>simpa[bX]using ih
theorem pE:∀ {ls:List Leaf},(∀ q∈aw ls,st' q=st q)->de st' ls=de st ls
 |[],_=>rfl
 |l::ls,h=>by
  have ih:=pE (ls:=ls) (λq hq=>h q (by rw[aM];exact AE _ hq));cases l with
  |nal p ks ep loc E e xs =>
   cases loc with
   |none=>simp only[de,ih,cf (l:=.nal p ks ep none E e xs) (λq hq=>h q (by rw[aM];exact AD _ hq))]
   |some x=>simpa[de]using ih
  |_=>simpa[de]using ih
theorem nL {ls:List Leaf}(h:∀ q∈aw ls,st' q=st q):dn st' ls=dn st ls:=by
 unfold dn;induction ls with
 |nil=>rfl
 |cons l ls ih =>
  rw[AY,AY,ih (λq hq=>h q (by rw[aM];exact AE _ hq))];unfold fy;rw[cf (λq hq=>h q (by rw[aM];exact AD _ hq))]
theorem dV:∀ {ls:List Leaf} {x:Nat×Nat},x∈bB st ls->x.1∈aw ls
 |[],_,h=>by simp[bB]at h
 |l::ls,x,h=>by
  cases l with
  |al r j v =>
   simp only[bB,AB]at h;rcases h with h|h
   ·split at h
    ·simp at h;subst h;simp[aw]
    ·simp at h
   ·rw[aM];exact AE _ (dV h)
  |nal p ks ep loc E e xs =>
   simp only[bB,AB]at h;rcases h with h|h
   ·split at h
    ·obtain⟨k,hk,rfl⟩:=AL.1 h;rw[aM,gF];exact AD _ (AF _ (AL.2 ⟨k,hk,rfl⟩))
    ·simp at h
   ·rw[aM];exact AE _ (dV h)
  |_=>(simp only[bB]at h;rw[aM];exact AE _ (dV h))
theorem it:∀ {ls:List Leaf} {x:Nat×Nat},x∈bX st ls->x.1∈aw ls
 |[],_,h=>by simp[bX]at h
 |l::ls,x,h=>by
  cases l with
  |al r j v =>
   simp only[bX,AB]at h;rcases h with h|h
   ·split at h
    ·simp at h;subst h;simp[aw]
    ·simp at h
   ·rw[aM];exact AE _ (it h)
  |_=>(simp only[bX]at h;rw[aM];exact AE _ (it h))
theorem gv:∀ {ls:List Leaf} {x:Nat×Nat},x∈de st ls->x.1∈aw ls
 |[],_,h=>by simp[de]at h
 |l::ls,x,h=>by
  cases l with
  |nal p ks ep loc E e xs =>
   cases loc with
   |none =>
    simp only[de,AB]at h;rcases h with h|h
    ·split at h
     ·obtain⟨k,hk,rfl⟩:=AL.1 h;rw[aM,gF];exact AD _ (AF _ (AL.2 ⟨k,hk,rfl⟩))
     ·simp at h
    ·rw[aM];exact AE _ (gv h)
   |some y=>(simp only[de]at h;rw[aM];exact AE _ (gv h))
  |_=>(simp only[de]at h;rw[aM];exact AE _ (gv h))
theorem gG:∀ {ks:List (Nat×Nat)},(∀ x∈ks,st' x.1=st x.1)->aN st' ks=aN st ks
 |[],_=>rfl
 |(r,j)::ks,h=>by
  simp only[aN,gG (ks:=ks) (λx hx=>h x (AF _ hx)),bm (h (r,j) (AG ..))]
theorem jl:∀ {ks:List (Nat×Nat)},(∀ x∈ks,st' x.1=st x.1)->aF st' ks=aF st ks
 |[],_=>rfl
 |(r,j)::ks,h=>by
  simp only[aF,jl (ks:=ks) (λx hx=>h x (AF _ hx)),bm (h (r,j) (AG ..))]
theorem sg {ls:List Leaf}(h:∀ q∈aw ls,st' q=st q):mvU st' ls=mvU st ls:=by
 unfold mvU;rw[pE h,nK h,jl (λx hx=>h _ (gv hx))];simp only;rw[gG (λx hx=>bm (h _ (it hx)) _)]
theorem pF {ls:List Leaf}(h:∀ q∈aw ls,st' q=st q):gw st' ls=gw st ls:=by
 unfold gw;rw[pE h,nK h]
theorem iu:∀ (a:Ty) (ls:List Leaf),(∀ q∈aw ls,st' q=st q)->take st' a ls=take st a ls
 |.int k,ls,h=>by simp only[take,fO (.int k) ls h]
 |.bool,ls,h=>by simp only[take,fO .bool ls h]
 |.str,ls,h=>by simp only[take,fO .str ls h]
 |.unit,ls,h=>rfl
 |.hdr,ls,h=>by simp only[take,fO .hdr ls h]
 |.pair a b,ls,h=>by
  simp only[take,iu a ls h];cases ha:take st a ls with
  |none=>rfl
  |some x =>
   have hr:=jk.take_rest a ls x ha;simp only;rw[iu b x.rest (λq hq=>h q (eW a.cells ls q (by rw[<- hr];exact hq)))]
 |.list m E e,ls,h=>by
  cases ls with
  |nil=>rfl
  |cons l ls =>
   have hl:∀ q∈aw [l],st' q=st q:=λq hq=>h q (by rw[aM];exact AD _ hq)
   simp only[take,cf hl,is hl];congr 1;split
   ·rename_i r j v;rw[cf hl]
   ·rfl
   ·rfl
theorem gf {a:Ty}{ls:List Leaf}(h:∀ q∈aw ls,st' q=st q):cb st' a ls=cb st a ls:=by
 unfold cb;rw[iu a ls h]
theorem mH:∀ (a:Ty) (ls:List Leaf) (t:cA a.den),take st a ls=some t->(∀ z∈t.frz,z.1∈aw ls)/\∀ z∈t.kill,z.1∈aw ls
 |.int k,ls,t,h=>by simp only[take,AI]at h;obtain⟨_,_,rfl⟩:=h;exact⟨by simp,by simp⟩
 |.bool,ls,t,h=>by simp only[take,AI]at h;obtain⟨_,_,rfl⟩:=h;exact⟨by simp,by simp⟩
 |.str,ls,t,h=>by simp only[take,AI]at h;obtain⟨_,_,rfl⟩:=h;exact⟨by simp,by simp⟩
 |.hdr,ls,t,h=>by simp only[take,AI]at h;obtain⟨_,_,rfl⟩:=h;exact⟨by simp,by simp⟩
 |.unit,ls,t,h=>by simp only[take,AA]at h;subst h;exact⟨by simp,by simp⟩
 |.pair a b,ls,t,h=>by
  simp only[take]at h;split at h
  ·rename_i x hx;split at h
   ·rename_i y hy;simp only[AA]at h;subst h;have hr:=jk.take_rest a ls x hx;obtain⟨h1,h2⟩:=mH a ls x hx;obtain⟨h3,h4⟩:=mH b x.rest y hy;rw[hr]at h3 h4;exact⟨λz hz=>(AB.1 hz).elim (h1 z) (λhz=>eW _ _ _ (h3 z hz)),λz hz=>(AB.1 hz).elim (h2 z) (λhz=>eW _ _ _ (h4 z hz))⟩
   ·cases h
  ·cases h
 |.list m E e,ls,t,h=>by
  cases ls with
  |nil=>simp[take]at h
  |cons l ls =>
   have hl:∀ q∈aw [l],q∈aw (l::ls):=λq hq=>by rw[aM];exact AD _ hq
   cases m with
   |false =>
    simp only[take,cond_false]at h;split at h
    ·simp only[AA]at h;subst h;exact⟨λz hz=>hl _ (dV hz),by simp⟩
    ·cases h
   |true =>
    simp only[take,cond_true]at h;split at h
    ·split at h
     ·simp only[AI]at h;obtain⟨_,_,rfl⟩:=h;exact⟨by simp,λz hz=>by simp at hz;subst hz;exact hl _ (by simp[aw])⟩
     ·cases h
    ·simp only[AA]at h;subst h;exact⟨by simp,by simp⟩
    ·cases h
theorem ib {a:Ty}{ls:List Leaf}{t:cA a.den}(h:cb st a ls=some t):(∀ z∈t.frz,z.1∈aw ls)/\∀ z∈t.kill,z.1∈aw ls:=by
 unfold cb at h;split at h
 ·rename_i p x f k hq;simp only[AA]at h;subst h;exact mH a ls _ hq
 ·cases h
theorem jc:∀ {off n:Nat} (a:Ty) (pos:Nat) (x:a.den) (ls:List Leaf) (t:cA a.den),cR st off n a pos x ls=some t->∃ k,t.rest=ls.drop k
 |off,n,.pair a b,pos,x,ls,t,h=>by
  simp only[cR]at h;split at h
  ·rename_i u hu;split at h
   ·rename_i v hv;simp only[AA]at h;subst h;obtain⟨k1,e1⟩:=jc a pos x.1 ls u hu;obtain⟨k2,e2⟩:=jc b (pos+a.cells) x.2 u.rest v hv;exact⟨k1+k2,by show v.rest=_;rw[e2,e1,BH]⟩
   ·cases h
  ·cases h
 |off,n,.unit,pos,x,ls,t,h=>by simp only[cR,AA]at h;subst h;exact⟨0,rfl⟩
 |off,n,.hdr,pos,x,ls,t,h=>by simp[cR]at h
 |off,n,.int k,pos,x,ls,t,h=>sc (a:=.int k) h
 |off,n,.bool,pos,x,ls,t,h=>sc (a:=.bool) h
 |off,n,.str,pos,x,ls,t,h=>sc (a:=.str) h
 |off,n,.list m E e,pos,x,ls,t,h=>sc (a:=.list m E e) h
where
 sc {a:Ty} {b:Bool} {x:a.den} {ls:List Leaf} {t:cA a.den} (h:(bif b then take st a ls else some ⟨false,x,[],[],ls⟩)=some t):∃ k,t.rest=ls.drop k:=by
  cases b with
  |true=>exact⟨_,jk.take_rest a ls t h⟩
  |false=>simp only[cond_false,AA]at h;subst h;exact⟨0,rfl⟩
theorem nM:∀ {off n:Nat} (a:Ty) (pos:Nat) (x:a.den) (ls:List Leaf),(∀ q∈aw ls,st' q=st q)->cR st' off n a pos x ls=cR st off n a pos x ls
 |off,n,.pair a b,pos,x,ls,h=>by
  simp only[cR,nM a pos x.1 ls h];cases hu:cR st off n a pos x.1 ls with
  |none=>rfl
  |some u =>
   obtain⟨k,e⟩:=jc a pos x.1 ls u hu;simp only;rw[nM b (pos+a.cells) x.2 u.rest (λq hq=>h q (eW k ls q (by rw[<- e];exact hq)))]
 |off,n,.unit,pos,x,ls,h=>rfl
 |off,n,.hdr,pos,x,ls,h=>rfl
 |off,n,.int k,pos,x,ls,h=>by simp only[cR,iu (.int k) ls h]
 |off,n,.bool,pos,x,ls,h=>by simp only[cR,iu .bool ls h]
 |off,n,.str,pos,x,ls,h=>by simp only[cR,iu .str ls h]
 |off,n,.list m E e,pos,x,ls,h=>by simp only[cR,iu (.list m E e) ls h]
theorem nN:∀ {off n:Nat} (a:Ty) (pos:Nat) (x:a.den) (ls:List Leaf) (t:cA a.den),cR st off n a pos x ls=some t->(∀ z∈t.frz,z.1∈aw ls)/\∀ z∈t.kill,z.1∈aw ls
 |off,n,.pair a b,pos,x,ls,t,h=>by
  simp only[cR]at h;split at h
  ·rename_i u hu;split at h
   ·rename_i v hv;simp only[AA]at h;subst h;obtain⟨k,e⟩:=jc a pos x.1 ls u hu;obtain⟨h1,h2⟩:=nN a pos x.1 ls u hu;obtain⟨h3,h4⟩:=nN b (pos+a.cells) x.2 u.rest v hv;rw[e]at h3 h4;exact⟨λz hz=>(AB.1 hz).elim (h1 z) (λhz=>eW _ _ _ (h3 z hz)),λz hz=>(AB.1 hz).elim (h2 z) (λhz=>eW _ _ _ (h4 z hz))⟩
   ·cases h
  ·cases h
 |off,n,.unit,pos,x,ls,t,h=>by simp only[cR,AA]at h;subst h;exact⟨by simp,by simp⟩
 |off,n,.hdr,pos,x,ls,t,h=>by simp[cR]at h
 |off,n,.int k,pos,x,ls,t,h=>sc (a:=.int k) h
 |off,n,.bool,pos,x,ls,t,h=>sc (a:=.bool) h
 |off,n,.str,pos,x,ls,t,h=>sc (a:=.str) h
 |off,n,.list m E e,pos,x,ls,t,h=>sc (a:=.list m E e) h
where
 sc {a:Ty} {b:Bool} {x:a.den} {ls:List Leaf} {t:cA a.den} (h:(bif b then take st a ls else some ⟨false,x,[],[],ls⟩)=some t):(∀ z∈t.frz,z.1∈aw ls)/\∀ z∈t.kill,z.1∈aw ls:=by
  cases b with
  |true=>exact mH a ls t h
  |false=>simp only[cond_false,AA]at h;subst h;exact⟨by simp,by simp⟩
theorem tI {U:Upd}{d:Nat}{sh:aI}{ls:List Leaf}(h:st' d=st d):cj st' U d sh ls=cj st U d sh ls:=by
 simp only[cj,bm h]
theorem qm:∀ {xs:List Operand} {t:Nat},Operand.tmp t∈xs->t∈gK xs
 |[],_,h=>by simp at h
 |x::xs,t,h=>by
  rcases AO.1 h with rfl|h
  ·simp[gK]
  ·have ih:=qm h;cases x <;> simp[gK,ih]
theorem ml (t n:Nat):∀ (j:Nat) (ls:List Leaf) (q:Nat),q∈aw (bF t n j ls)->q=t\/q∈aw ls
 |_,[],_,h=>by simp[bF,aw]at h
 |j,l::ls,q,h=>by
  simp only[bF]at h;rw[aM,AB]at h;rw[aM,AB];rcases h with h|h
  ·cases l with
   |own p hh E e xs=>simp[kL,aw]at h;exact .inl h
   |_=>exact .inr (.inl h)
  ·exact (ml t n (j+1) ls q h).imp id .inr
theorem kj:∀ (l1 l2:List Leaf),ay (l1++l2)=ay l1++ay l2
 |[],_=>rfl
 |l::l1,l2=>by cases l <;> simp[ay,kj l1 l2]
theorem db (l:Leaf)(ls:List Leaf):ay (l::ls)=ay [l]++ay ls:=kj [l] ls
theorem eX:∀ {ls:List Leaf} {q:Nat},q∈aw ls->q∈ay ls
 |[],_,h=>by simp[aw]at h
 |l::ls,q,h=>by
  rw[aM,AB]at h;rw[db,AB];rcases h with h|h
  ·left;cases l with
   |nal p ks ep loc E e xs=>simp[aw]at h;simpa[ay]using h
   |np p ks ep a x off=>simp[aw]at h;simpa[ay]using h
   |_=>simp[aw]at h <;> simp[ay,h]
  ·exact .inr (eX h)
theorem mm (t n:Nat):∀ (j:Nat) (ls:List Leaf) (q:Nat),q∈ay (bF t n j ls)->q=t\/q∈ay ls
 |_,[],_,h=>by simp[bF,ay]at h
 |j,l::ls,q,h=>by
  simp only[bF]at h;rw[db,AB]at h;rw[db,AB];rcases h with h|h
  ·cases l with
   |own p hh E e xs=>simp[kL,ay]at h;exact .inl h
   |_=>exact .inr (.inl h)
  ·exact (mm t n (j+1) ls q h).imp id .inr
theorem qn {x:Operand}{q:Nat}(h:q∈aw (ar st x).2):∃ t,x=.tmp t/\(q=t\/q∈aw (st t).ls):=by
 cases x with
 |tmp t =>
  simp only[ar]at h;cases hb:BD t GH with
  |false=>simp[hb,aw]at h
  |true=>simp only[hb,cond_true]at h;exact⟨t,rfl,ml _ _ _ _ _ h⟩
 |const v =>
  simp only[ar]at h;split at h
  ·rename_i l hl;unfold gH at hl;split at hl <;> simp at hl <;> subst hl <;> simp[aw]at h
  ·simp[aw]at h
 |func f=>simp[ar,aw]at h
 |global g=>simp[ar,aw]at h
theorem qo {x:Operand}{q:Nat}(h:q∈ay (ar st x).2):∃ t,x=.tmp t/\(q=t\/q∈ay (st t).ls):=by
 cases x with
 |tmp t =>
  simp only[ar]at h;cases hb:BD t GH with
  |false=>simp[hb,ay]at h
  |true=>simp only[hb,cond_true]at h;exact⟨t,rfl,mm _ _ _ _ _ h⟩
 |const v =>
  simp only[ar]at h;split at h
  ·rename_i l hl;unfold gH at hl;split at hl <;> simp at hl <;> subst hl <;> simp[ay]at h
  ·simp[ay]at h
 |func f=>simp[ar,ay]at h
 |global g=>simp[ar,ay]at h
theorem pG {x:Operand}{l:Leaf}(h:one st x=l)(hd:l≠.dead):(ar st x).2=[l]:=by
 unfold one at h;split at h
 ·rename_i l' he;rw[he,h]
 ·exact absurd h.symm hd
theorem iv {x:Operand}{q:Nat}(h:q∈aw [one st x]):q∈aw (ar st x).2:=by
 by_cases hd:one st x=.dead
 ·rw[hd]at h;simp[aw]at h
 ·rw[pG rfl hd];exact h
theorem si {x:Operand}{q:Nat}(h:q∈ay [one st x]):q∈ay (ar st x).2:=by
 by_cases hd:one st x=.dead
 ·rw[hd]at h;simp[ay]at h
 ·rw[pG rfl hd];exact h
def iE:Leaf->Bool×Leaf
 |.own _ _ _ e xs=>(true,.ep 0 0 0 e.cells xs.length 0)
 |l=>(false,l)
def bI (c:bS):Nat×aI×List (Bool×Leaf):=(c.ver,c.sh,c.ls.map iE)
theorem sj {l l':Leaf}(h:iE l'=iE l):l'=l\/∃ (p p':Bool) (hh hh':Option (Nat×Nat)) (E E':TypeId) (e e':Ty) (xs:List e.den) (xs':List e'.den),l=.own p hh E e xs/\l'=.own p' hh' E' e' xs'/\e'.cells=e.cells/\xs'.length=xs.length:=by
 cases l <;> cases l' <;> simp only[iE,AS,A1,reduceCtorEq,false_and,and_false,true_and,Leaf.ep.injEq,Bool.true_eq_false]at h <;>
  first
  |exact .inr ⟨_,_,_,_,_,_,_,_,_,_,rfl,rfl,h.1,h.2.1⟩
  |exact .inr ⟨_,_,_,_,_,_,_,_,_,_,rfl,rfl,h.1,h.2⟩
  |exact .inl rfl
  |exact .inl (by rw[h])
  |exact .inl h
  |(obtain⟨rfl,rfl,rfl,rfl,rfl,rfl⟩:=h;exact .inl rfl)
theorem oU (t n:Nat):∀ (j:Nat) (ls ls':List Leaf),ls'.map iE=ls.map iE->bF t n j ls'=bF t n j ls
 |_,[],[],_=>rfl
 |_,[],_::_,h=>by simp at h
 |_,_::_,[],h=>by simp at h
 |j,l::ls,l'::ls',h=>by
  simp only[AY,BE]at h;simp only[bF,oU t n (j+1) ls ls' h.2];rcases sj h.1 with e|⟨p,p',hh,hh',E,E',e,e',xs,xs',e1,e2,_,_⟩
  ·rw[e]
  ·rw[e1,e2];rfl
theorem we {x:Operand}(h:∀ t,x=.tmp t->bI (st' t)=bI (st t)):ar st' x=ar st x:=by
 cases x with
 |tmp t =>
  have:=h t rfl;simp only[bI,AS]at this;simp only[ar,this.1,this.2.1,oU _ _ _ _ _ this.2.2]
 |_=>rfl
theorem xJ {x:Operand}(h:∀ t,x=.tmp t->bI (st' t)=bI (st t)):one st' x=one st x:=by
 unfold one;rw[we h]
theorem wg {c c':bS}(h:bI c'=bI c)(j:Nat):iE (c'.ls.getD j .dead)=iE (c.ls.getD j .dead):=by
 simp only[bI,AS]at h;have:=congrArg (λl=>l[j]?) h.2.2;simp only[BU]at this;rw[AP,AP];generalize c'.ls[j]?=a at this;generalize c.ls[j]?=b at this
 match a,b,this with
 |none,none,_=>rfl
 |some x,some y,h=>exact Bc h
theorem qp (l:Leaf):kq l=(iE l).1:=by cases l <;> rfl
theorem xo {ks:List (Nat×Nat×Nat)}{ep:Nat}(h:∀ q∈EPO::ks.map (·.1),bI (st' q)=bI (st q)):br st' ks ep=br st ks ep:=by
 unfold br;have hE:=h EPO (AG ..);simp only[bI,AS]at hE;rw[hE.1];congr 1;induction ks with
 |nil=>rfl
 |cons k ks ih =>
  have hk:=h k.1 (by simp);have hv:(st' k.1).ver=(st k.1).ver:=by simp only[bI,AS]at hk;exact hk.1
  rw[A8,A8,ih (λq hq=>h q (by simp at hq ⊢;rcases hq with hq|hq;exact .inl hq;exact .inr (.inr hq))),qp,qp,wg hk,hv]
end
section
variable {P:Program} {V:Env} {Γ:List Ctr} {T:TypeId->TI} {st st':St} {o:Oper} {R:Type} {κ:Upd->Option R} {r:R}
theorem sk {d:Nat}(hd:o.dst=some d)(h:∀ q∈eL st o,st' q=st q):st' d=st d/\st' (B0+d)=st (B0+d):=by
 refine⟨h d ?_,h (B0+d) ?_⟩ <;> simp[eL,xx,hd]
theorem kk {ls:List Leaf}(h:∀ q∈aw ls,st' q=st q):∀ x∈bB st ls,st' x.1=st x.1:=λx hx=>h _ (dV hx)
theorem oV {flds:List (Nat×Nat×Bool)}:∀ (ps:List (Nat×Operand)) (ls:List Leaf),(∀ x∈ps,∀ t,x.2=.tmp t->st' t=st t)->eK st' flds ps ls=eK st flds ps ls
 |[],_,_=>rfl
 |(i,x)::ps,ls,h=>by
  simp only[eK,dw (h (i,x) (AG ..))];split
  ·rw[oV ps _ (λy hy=>h y (AF _ hy))]
  ·rfl
theorem m7 {e:Ty}:∀ (ps:List (Nat×Operand)) (k:Nat),(∀ x∈ps,(∀ t,x.2=.tmp t->st' t=st t)/\∀ q∈aw (ar st x.2).2,st' q=st q)->dW st' e k ps=dW st e k ps
 |[],_,_=>rfl
 |(i,x)::ps,k,h=>by
  have h1:=h (i,x) (AG ..);simp only[dW,dw h1.1,gf h1.2,m7 ps (k+1) (λy hy=>h y (AF _ hy))]
theorem m8 {e:Ty}:∀ (ps:List (Nat×Operand)) (k:Nat) (u:cA (List e.den)),dW st e k ps=some u->∀ z,z∈u.frz\/z∈u.kill->∃ x∈ps,z.1∈aw (ar st x.2).2
 |[],_,_,h=>by simp only[dW,AA]at h;subst h;simp
 |(i,x)::ps,k,u,h=>by
  simp only[dW]at h;cases hb:AJ i k&&decide ((ar st x).1=bj e.isAgg) with
  |false=>simp[hb]at h
  |true =>
   simp only[hb,cond_true]at h;split at h
   ·rename_i t1 u1 hg hbe;simp only[AA]at h;subst h;intro z hz;obtain⟨p1,p2⟩:=ib hg;have hmem:(z∈t1.frz\/z∈t1.kill)\/(z∈u1.frz\/z∈u1.kill):=by
     rcases hz with hz|hz <;> rcases AB.1 hz with hz|hz
     ·exact .inl (.inl hz)
     ·exact .inr (.inl hz)
     ·exact .inl (.inr hz)
     ·exact .inr (.inr hz)
    rcases hmem with hz|hz
    ·exact⟨(i,x),AG ..,hz.elim (p1 z) (p2 z)⟩
    ·obtain⟨y,hy,h2⟩:=m8 ps (k+1) u1 hbe z hz;exact⟨y,AF _ hy,h2⟩
   ·cases h
theorem mn {x:Option Operand}{n:Int}(h:∀ y,x=some y->∀ t,y=.tmp t->st' t=st t):cW st' x n=cW st x n:=by
 cases x with
 |none=>rfl
 |some y=>simp only[cW,dk (h y rfl)]
theorem tJ:∀ (xs:List Operand) (acc:Option (List Nat)),(∀ x∈xs,∀ t,x=.tmp t->st' t=st t) ->
  xs.foldl (λ (acc:Option (List Nat)) x=>acc.bind λl=>match one st' x with|.bp b 0=>some (l++[b])|_=>none) acc =
  xs.foldl (λ (acc:Option (List Nat)) x=>acc.bind λl=>match one st x with|.bp b 0=>some (l++[b])|_=>none) acc
 |[],_,_=>rfl
 |x::xs,acc,h=>by
  simp only[Bd,dk (h x (AG ..))];exact tJ xs _ (λy hy=>h y (AF _ hy))
theorem oW {l:Leaf}(hT:st' TMP=st TMP)(hE:st' EPO=st EPO)(h:∀ q∈aw [l],st' q=st q):cg st' l=cg st l:=by
 cases l with
 |nal p ks ep loc E e xs =>
  rw[gF]at h;simp only[cg,iL h,hT,hE];congr 1
  match ks,loc,h with
  |[(r,j,n)],some (i,sz,off),h =>
   have hr:=h r (by simp);simp only[hr]
  |[(r,j,n)],none,_=>rfl
  |[],_,_=>rfl
  |_::_::_,_,_=>rfl
 |_=>rfl
theorem m9 {l l':Leaf}{U:Upd}(h:cg st l=some (U,l')):∃ n,l'=.al TMP 0 n/\∀ q,q≠TMP->∀ z∈ay (ac U st q).ls,z∈ay (st q).ls:=by
 cases l with
 |nal p ks ep loc E e xs =>
  simp only[cg]at h;cases hvk:br st ks ep with
  |false=>simp[hvk]at h
  |true =>
   rw[hvk]at h;simp only[cond_true]at h;split at h
   ·rename_i r j n0 i sz off;split at h
    ·rename_i p' E' e' xs' hg;cases hb:!AJ r TMP&&!AJ r EPO&&AJ sz e'.cells with
     |false=>simp[hb]at h
     |true =>
      rw[hb]at h;simp only[cond_true]at h;split at h
      ·split at h
       ·rename_i y _ _ _ _ _;simp only[AA,AS]at h;obtain⟨rfl,rfl⟩:=h;refine⟨_,rfl,λq hq z hz=>?_⟩;rw[aP]at hz;rcases am r q ⟨(st r).ver,(st r).sh,aR (st r).ls j (.own p' (some (i,off)) E' e' xs')⟩ (ac [(TMP,⟨(st TMP).ver+1,.one,[.own (p'&&e'.shy) none _ _ _]⟩),(EPO,bT (st EPO))] st) with ⟨rfl,e0⟩|⟨_,e0⟩
        ·rw[e0]at hz;exact refs_set hz
        ·rw[e0,aP,aJ hq]at hz;rcases am EPO q (bT (st EPO)) st with ⟨rfl,e1⟩|⟨_,e1⟩ <;> rw[e1]at hz <;> exact hz
       ·cases h
      ·cases h
    ·cases h
   ·cases h
 |_=>simp[cg]at h
where
 refs_set {ls:List Leaf} {j z:Nat} {p:Bool} {hh:Option (Nat×Nat)} {E:TypeId} {e:Ty} {xs:List e.den} (h:z∈ay (aR ls j (.own p hh E e xs))):z∈ay ls:=by
  unfold aR at h;induction ls generalizing j with
  |nil=>simpa using h
  |cons l ls ih =>
   cases j with
   |zero =>
    rw[List.set_cons_zero,db,AB]at h;rw[db,AB];rcases h with h|h
    ·simp[ay]at h
    ·exact .inr h
   |succ j =>
    rw[BR,db,AB]at h;rw[db,AB];exact h.imp id ih
theorem sY {l l':Leaf}{U:Upd}(h:cg st l=some (U,l')):ay (ac U st TMP).ls=[]:=by
 cases l with
 |nal p ks ep loc E e xs =>
  simp only[cg]at h;cases hvk:br st ks ep with
  |false=>simp[hvk]at h
  |true =>
   rw[hvk]at h;simp only[cond_true]at h;split at h
   ·rename_i r j n0 i sz off;split at h
    ·rename_i p' E' e' xs' hg;cases hb:!AJ r TMP&&!AJ r EPO&&AJ sz e'.cells with
     |false=>simp[hb]at h
     |true =>
      rw[hb]at h;simp only[cond_true]at h;have hrT:TMP≠r:=λe=>by subst e;simp at hb
      split at h
      ·split at h
       ·simp only[AA,AS]at h;obtain⟨rfl,rfl⟩:=h;rw[aP,aJ hrT,aP,bk];rfl
       ·cases h
      ·cases h
    ·cases h
   ·cases h
 |_=>simp[cg]at h
theorem uK {E:TypeId}{e:Ty}{y:Leaf}(hy:∀ q∈aw [y],st' q=st q):fj st' E e y=fj st E e y:=by
 unfold fj;rw[cf hy,is hy,gf hy]
theorem uL {E:TypeId}{e:Ty}{y:Leaf}{t:cA (List e.den)}(h:fj st E e y=some t):(∀ z∈t.frz,z.1∈aw [y])/\∀ z∈t.kill,z.1∈aw [y]:=by
 unfold fj at h;cases hf:e.flat with
 |true =>
  rw[hf]at h;simp only[cond_true,AI]at h;obtain⟨_,_,rfl⟩:=h;exact⟨by simp,by simp⟩
 |false =>
  rw[hf]at h;simp only[cond_false]at h;cases hs:decide (e.sh=e) with
  |true =>
   rw[hs]at h;simp only[cond_true,AI]at h;obtain⟨_,_,rfl⟩:=h;exact⟨λz hz=>dV hz,by simp⟩
  |false =>
   rw[hs]at h;simp only[cond_false,AI]at h;obtain⟨t',ht,rfl⟩:=h;exact ib ht
theorem kl {U0:Upd}{d:Nat}{E:TypeId}{e:Ty}{bytes:Nat}{p:Bool}{xs:List e.den}{ks:List (Nat×Nat)}{y:Leaf}(hks:∀ z∈ks,st' z.1=st z.1)(hy:∀ q∈aw [y],st' q=st q)(hd:st' d=st d) :
  dx st' (ac U0 st') U0 d E e bytes p xs ks y κ=dx st (ac U0 st) U0 d E e bytes p xs ks y κ:=by
 unfold dx;have h0:∀ q,st' q=st q->ac U0 st' q=ac U0 st q:=λq h=>bm h U0
 rw[uK (st:=ac U0 st) (st':=ac U0 st') (λq hq=>h0 q (hy q hq))];split
 ·rename_i t ht;obtain⟨p1,p2⟩:=uL ht;have e1:aF (ac U0 st') t.frz=aF (ac U0 st) t.frz:=jl (λz hz=>h0 _ (hy _ (p1 z hz)));have e2:∀ U:Upd,aN (ac U (ac U0 st')) (t.kill++ks)=aN (ac U (ac U0 st)) (t.kill++ks):=λU=>gG (λz hz=>bm (h0 _ ((AB.1 hz).elim (λhz=>hy _ (p2 z hz)) (hks z))) U)
  simp only[e1,e2,tI hd]
 ·rfl
theorem uM {U0:Upd}{d:Nat}{E:TypeId}{e:Ty}{bytes:Nat}{x y:Leaf}(hx:∀ q∈aw [x],st' q=st q)(hy:∀ q∈aw [y],st' q=st q)(hd:st' d=st d):dQ st' U0 d E e bytes x y κ=dQ st U0 d E e bytes x y κ:=by
 unfold dQ;cases x with
 |al r j v =>
  have hr:st' r=st r:=hx r (by simp[aw]);simp only;rw[cf (st:=ac U0 st) (st':=ac U0 st') (l:=.al r j v) (λq hq=>bm (hx q hq) U0)];split
  ·rw[kl (λz hz=>by simp at hz;subst hz;exact hr) hy hd]
  ·rfl
 |nil=>exact kl (by simp) hy hd
 |_=>rfl
theorem uN {d:Nat}{E:TypeId}{e:Ty}{bytes:Nat}{x y:Leaf}(hT:st' TMP=st TMP)(hx:∀ q∈aw [x],st' q=st q)(hy:∀ q∈aw [y],st' q=st q)(hd:st' d=st d):gJ st' d E e bytes x y κ=gJ st d E e bytes x y κ:=by
 unfold gJ;rw[uM hx hy hd,gq,gq];cases hn:iy x with
 |false=>rfl
 |true =>
  simp only[cond_true];have hE:st' EPO=st EPO:=by
   cases x with
   |nal p ks ep loc E e xs=>exact hx EPO (by rw[gF];exact AG ..)
   |_=>simp[iy]at hn
  rw[oW hT hE hx];cases hu:cg st x with
  |none=>rfl
  |some u =>
   obtain⟨n,e1,_⟩:=m9 (U:=u.1) (l':=u.2) hu;simp only[Am];rw[e1];unfold dQ;simp only;have e2:∀ q,q=TMP->ac u.1 st' q=ac u.1 st q:=λq hq=>by rw[hq];exact bm hT u.1
   rw[cf (st:=ac u.1 st) (st':=ac u.1 st') (l:=.al TMP 0 n) (λq hq=>e2 q (by simpa[aw]using hq))];split
   ·rw[kl (λz hz=>by simp at hz;subst hz;exact hT) hy hd]
   ·rfl
structure ed (st st':St) (ls:List Leaf):Prop where
 d1:∀ q∈ay ls,st' q=st q
 d2:∀ r∈ay ls,∀ q∈ay (st r).ls,st' q=st q
 d3:∀ r∈ay ls,∀ r2∈ay (st r).ls,∀ q∈ay (st r2).ls,st' q=st q
theorem jE (p:Bool):∀ (a:Ty) (x:a.den),ay (cz p a x)=[]
 |.int _,_=>rfl
 |.bool,_=>rfl
 |.str,_=>rfl
 |.unit,_=>rfl
 |.hdr,_=>rfl
 |.pair a b,x=>by simp[cz,kj,jE p a,jE p b]
 |.list _ _ _,_=>rfl
theorem qq {l:Leaf}(h:∀ q∈ay [l],st' q=st q):target st' l=target st l:=by
 unfold target;cases l with
 |bp b off =>
  have hb:=h b (by simp[ay]);cases off with
  |zero=>simp only[hb]
  |succ n=>rfl
 |rp p a x off=>cases off <;> rfl
 |_=>rfl
theorem km {l:Leaf}{ls:List Leaf}(h:target st l=some ls):∀ q∈ay ls,q∈ay [l]\/∃ r∈ay [l],q∈ay (st r).ls:=by
 unfold target at h;split at h
 ·rename_i b;cases hb:decide ((st b).sh=.agg) with
  |false=>simp[hb]at h
  |true =>
   simp only[hb,cond_true,AA]at h;subst h;intro q hq;rcases mm _ _ _ _ _ hq with rfl|hq
   ·exact .inl (by simp[ay])
   ·exact .inr ⟨b,by simp[ay],hq⟩
 ·simp only[AA]at h;subst h;intro q hq;rw[jE]at hq;simp at hq
 ·simp only[AA]at h;subst h;intro q hq;simp[ay]at hq
 ·cases h
theorem ic {x:aI×List Leaf}{q:Nat}(h:q∈ay [ch x]):q∈ay x.2:=by
 unfold ch at h;split at h
 ·exact h
 ·simp[ay]at h
theorem ed.target {l:Leaf}{ls:List Leaf}(h:ed st st' [l])(ht:Go.Proofs.YtmcbmojdeikcdaaGreatEv.target st l=some ls):(∀ q∈ay ls,st' q=st q)/\∀ r∈ay ls,∀ q∈ay (st r).ls,st' q=st q:=by
 constructor
 ·intro q hq;rcases km ht q hq with h1|⟨r,h1,h2⟩
  ·exact h.d1 q h1
  ·exact h.d2 r h1 q h2
 ·intro r hr q hq;rcases km ht r hr with h1|⟨r',h1,h2⟩
  ·exact h.d2 r h1 q hq
  ·exact h.d3 r' h1 r h2 q hq
theorem ed.one {x:aI×List Leaf}(h:ed st st' x.2):ed st st' [ch x] :=
 ⟨λq hq=>h.d1 q (ic hq),λr hr=>h.d2 r (ic hr),λr hr=>h.d3 r (ic hr)⟩
def mo {α:Type}(st st':St)(g:Got α):Prop:=(∀ z∈g.frz,st' z.1=st z.1)/\(∀ z∈g.kill,st' z.1=st z.1)
theorem mp {c:Bool×Ty}{l:Leaf}(h1:ed st st' [l]):eJ st' c l=eJ st c l/\∀ g,eJ st c l=some g->mo st st' g:=by
 unfold eJ;rw[qq h1.d1];cases ht:target st l with
 |none=>cases c.1 <;> exact⟨rfl,by simp⟩
 |some ls =>
  have h2:=h1.target ht;cases hc:c.1 with
  |false =>
   have h3:∀ q∈aw ls,st' q=st q:=λq hq=>h2.1 q (eX hq)
   simp only[cond_false,d7 h3,is h3,true_and];intro g hg;simp only[AI]at hg;obtain⟨_,_,rfl⟩:=hg;exact⟨kk h3,by simp[Got.ofRd]⟩
  |true =>
   simp only[cond_true]
   match ls,h2,ht with
   |[],_,_=>exact⟨rfl,by simp⟩
   |_::_::_,_,_=>exact⟨rfl,by simp⟩
   |[l'],h2,ht =>
    simp only[qq h2.1];cases ht':target st l' with
    |none=>exact⟨rfl,by simp⟩
    |some ls' =>
     have h3:∀ q∈aw ls',st' q=st q:=by
      intro q hq;rcases km ht' q (eX hq) with h4|⟨r,h4,h5⟩
      ·exact h2.1 q h4
      ·exact h2.2 r h4 q h5
     simp only[d7 h3,is h3,true_and];intro g hg;simp only[AI]at hg;obtain⟨_,_,rfl⟩:=hg;exact⟨kk h3,by simp[Got.ofRd]⟩
theorem lu:∀ (cs:List (Bool×Ty)) (ls:List Leaf),(∀ l∈ls,ed st st' [l])->ck st' cs ls=ck st cs ls/\∀ g,ck st cs ls=some g->mo st st' g
 |[],[],_=>⟨rfl,λg hg=>by simp only[ck,AA]at hg;subst hg;exact⟨by simp,by simp⟩⟩
 |[],_::_,_=>⟨rfl,λg hg=>by simp[ck]at hg⟩
 |_::_,[],_=>⟨rfl,λg hg=>by simp[ck]at hg⟩
 |c::cs,l::ls,h=>by
  obtain⟨h1,h2⟩:=mp (c:=c) (h l (AG ..));obtain⟨h3,h4⟩:=lu cs ls (λy hy=>h y (AF _ hy));simp only[ck,h1,h3,true_and];intro g hg;split at hg
  ·rename_i g1 hg1;split at hg
   ·rename_i g2 hg2;simp only[AA]at hg;subst hg;exact⟨λz hz=>(AB.1 hz).elim ((h2 g1 hg1).1 z) ((h4 g2 hg2).1 z),by simp⟩
   ·cases hg
  ·cases hg
theorem na {c:Nat}{q:Nat}:∀ {ls:List Leaf} {c:Nat},q∈aw (aR ls c .nil)->q∈aw ls
 |[],_,h=>h
 |l::ls,0,h=>by
  rw[show aR (l::ls) 0 .nil=.nil::ls from rfl,aM,AB]at h;rw[aM,AB];rcases h with h|h
  ·simp[aw]at h
  ·exact .inr h
 |l::ls,c+1,h=>by
  rw[show aR (l::ls) (c+1) .nil=l::aR ls c .nil from rfl,aM,AB]at h;rw[aM,AB];exact h.imp id (na (c:=c))
theorem nO {caps:List Nat}{f:FuncId}(h1:ed st st' [.clo f caps]):∀ l∈caps.map (λb=>Leaf.bp b 0),ed st st' [l]:=by
 intro l hl;obtain⟨b,hb,rfl⟩:=AL.1 hl;have hcap:b∈ay [Leaf.clo f caps]:=by simp[ay,hb]
 have hbb:∀ r∈ay [Leaf.bp b 0],r=b:=λr hr=>by simpa[ay]using hr
 exact⟨λq hq=>h1.d1 q (by rw[hbb q hq];exact hcap),λr hr=>h1.d2 r (by rw[hbb r hr];exact hcap),λr hr=>h1.d3 r (by rw[hbb r hr];exact hcap)⟩
theorem mq {caps:List (Bool×Bool×(a:Ty)×a.den)}:∀ l∈caps.map ee,ed st st' [l]:=by
 intro l hl;obtain⟨c,hc,rfl⟩:=AL.1 hl;have:∀ q,q∉ay [ee c]:=by
  intro q hq;unfold ee at hq;cases hcc:c.2.1 <;> rw[hcc]at hq <;> simp[ay]at hq
 exact⟨λq hq=>absurd hq (this q),λq hq=>absurd hq (this q),λq hq=>absurd hq (this q)⟩
theorem dP {pk:PK}{x:aI×List Leaf}(h:ed st st' x.2):bi st' pk x=bi st pk x/\∀ g,bi st pk x=some g->mo st st' g:=by
 have hx:∀ q∈aw x.2,st' q=st q:=λq hq=>h.d1 q (eX hq)
 have h1:=h.one;have taking:∀ {b:Bool} {a:Ty} {g:Got a.den},(bif b then (cb st a x.2).map (λt=>(⟨t.p,t.val,t.frz,t.kill,[],[]⟩:Got a.den)) else none)=some g->mo st st' g:=by
  intro b a g hg;cases b with
  |false=>simp at hg
  |true =>
   simp only[cond_true,AI]at hg;obtain⟨t,ht,rfl⟩:=hg;obtain⟨p1,p2⟩:=ib ht;exact⟨λz hz=>hx _ (p1 z hz),λz hz=>hx _ (p2 z hz)⟩
 cases pk with
 |rd a =>
  simp only[bi,d7 hx,is hx,true_and];intro g hg;cases hb:decide (x.1=bj a.isAgg) with
  |false=>simp[hb]at hg
  |true =>
   simp only[hb,cond_true,AI]at hg;obtain⟨y,_,rfl⟩:=hg;exact⟨kk hx,by simp[Got.ofRd]⟩
 |own a =>
  simp only[bi,gf hx,true_and];exact λg hg=>taking hg
 |io a =>
  simp only[bi,gf hx,true_and];exact λg hg=>taking hg
 |rref a=>exact mp (c:=(false,a)) h1
 |rref2 a=>exact mp (c:=(true,a)) h1
 |iop a =>
  simp only[bi];split
  ·rename_i b hlf;rw[hlf]at h1;have hb:=h1.d1 b (by simp[ay]);have h3:∀ q∈aw (bF b (st b).ver 0 (st b).ls),st' q=st q:=by
    intro q hq;rcases ml _ _ _ _ _ hq with rfl|hq
    ·exact hb
    ·exact h1.d2 b (by simp[ay]) q (eX hq)
   simp only[hb,gf h3,true_and];intro g hg;cases hbb:decide ((st b).sh=.agg) with
   |false=>simp[hbb]at hg
   |true =>
    simp only[hbb,cond_true,AI]at hg;obtain⟨t,ht,rfl⟩:=hg;obtain⟨p1,p2⟩:=ib ht;exact⟨λz hz=>h3 _ (p1 z hz),λz hz=>h3 _ (p2 z hz)⟩
  ·exact⟨rfl,by simp⟩
 |fn As B =>
  simp only[bi,true_and];intro g hg;split at hg
  ·split at hg
   ·simp only[AA]at hg;subst hg;exact⟨by simp,by simp⟩
   ·cases hg
  ·cases hg
 |clo f cs =>
  simp only[bi];split
  ·rename_i f' caps hlf;rw[hlf]at h1;have:=lu cs _ (nO h1);rw[this.1];refine⟨rfl,λg hg=>?_⟩;cases hb:AJ f' f with
   |false=>simp[hb]at hg
   |true=>rw[hb]at hg;exact this.2 g hg
  ·rename_i f' caps hlf;have:=lu (st:=st) (st':=st') cs _ (mq (caps:=caps));rw[this.1];refine⟨rfl,λg hg=>?_⟩;cases hb:AJ f' f with
   |false=>simp[hb]at hg
   |true=>rw[hb]at hg;exact this.2 g hg
  ·exact⟨rfl,by simp⟩
 |hol a c off =>
  simp only[bi];have hset:∀ q∈aw (aR x.2 c .nil),st' q=st q:=λq hq=>hx q (na (c:=c) hq)
  rw[gf hset];cases hb:decide (x.1=bj a.isAgg) with
  |false=>exact⟨rfl,by simp⟩
  |true =>
   simp only[cond_true];split
   ·rename_i r j v hal;have hlc:x.2[c]?=some (.al r j v):=by
     rw[AP]at hal;cases hq:x.2[c]? with
     |none=>rw[hq]at hal;simp at hal
     |some l0=>rw[hq]at hal;simp at hal;rw[hal]
    have hr:=λq hq=>hx q (pD hlc q hq)
    rw[cf hr];refine⟨rfl,λg hg=>?_⟩;split at hg
    ·rename_i p i o' E e xs _;cases hbo:AJ o' off with
     |false=>simp[hbo]at hg
     |true =>
      rw[hbo]at hg;simp only[cond_true]at hg;split at hg
      ·rename_i t ht;split at hg
       ·simp only[AA]at hg;subst hg;obtain⟨p1,p2⟩:=ib ht;refine⟨λz hz=>hset _ (p1 z hz),λz hz=>?_⟩;rcases AO.1 hz with rfl|hz
        ·exact hr r (by simp[aw])
        ·exact hset _ (p2 z hz)
       ·cases hg
      ·cases hg
    ·cases hg
   ·exact⟨rfl,by simp⟩
theorem jF {ga ga':(pk:PK)->aI×List Leaf->Option (Got pk.den)}:∀ (ps:List PK) (xs:List (aI×List Leaf)),
  (∀ x∈xs,∀ pk,ga' pk x=ga pk x/\∀ g,ga pk x=some g->mo st st' g) ->
  bc ga' ps xs=bc ga ps xs/\∀ g,bc ga ps xs=some g->mo st st' g
 |[],[],_=>⟨rfl,λg hg=>by simp only[bc,AA]at hg;subst hg;exact⟨by simp,by simp⟩⟩
 |[],_::_,_=>⟨rfl,λg hg=>by simp[bc]at hg⟩
 |_::_,[],_=>⟨rfl,λg hg=>by simp[bc]at hg⟩
 |p::ps,x::xs,h=>by
  obtain⟨h1,h2⟩:=h x (AG ..) p;obtain⟨h3,h4⟩:=jF ps xs (λy hy=>h y (AF _ hy));simp only[bc,h1,h3,true_and];intro g hg;split at hg
  ·rename_i g1 hg1;split at hg
   ·rename_i g2 hg2;simp only[AA]at hg;subst hg;exact⟨λz hz=>(AB.1 hz).elim ((h2 g1 hg1).1 z) ((h4 g2 hg2).1 z),λz hz=>(AB.1 hz).elim ((h2 g1 hg1).2 z) ((h4 g2 hg2).2 z)⟩
   ·cases hg
  ·cases hg
theorem sl {As:List Ty}{B:Ty}{f:FuncId}{ls:List Leaf}(h:∀ l∈ls,ed st st' [l]):jH Γ st' As B f ls=jH Γ st As B f ls/\∀ g,jH Γ st As B f ls=some g->mo st st' g:=by
 have hargs:=λ (q:List PK)=>jF (st:=st) (st':=st') (ga:=bi st) (ga':=bi st') q (ls.map λl=>(aI.one,[l])) (λy hy pk=>by
  obtain⟨l,hl,rfl⟩:=AL.1 hy;exact dP (h l hl))
 unfold jH;split
 ·rename_i c hc;unfold qF;simp only[tc,(hargs _).1,true_and];intro g hg;split at hg
  ·cases hb:(c.ps.drop As.length).all PK.reads&&B.flat&&c.fresh with
   |false=>simp[hb]at hg
   |true =>
    simp only[hb,cond_true]at hg;split at hg
    ·rename_i g0 hg0;simp only[AA]at hg;subst hg;exact⟨((hargs _).2 g0 hg0).1,by simp⟩
    ·cases hg
  ·cases hg
 ·exact⟨rfl,by simp⟩
theorem uO {pk:PK}{x:aI×List Leaf}(h:ed st st' x.2):bZ Γ st' pk x=bZ Γ st pk x/\∀ g,bZ Γ st pk x=some g->mo st st' g:=by
 cases pk with
 |fn As B =>
  simp only[bZ];split
  ·rename_i fc hfc;have hx:(∃ caps,ch x=.clo fc.1 caps/\fc.2=caps.map λb=>Leaf.bp b 0)\/∃ caps,ch x=.clr fc.1 caps/\fc.2=caps.map ee:=by
    generalize ch x=l at hfc;cases l <;> simp only[tR,AA,reduceCtorEq]at hfc
    ·subst hfc;exact .inl ⟨_,rfl,rfl⟩
    ·subst hfc;exact .inr ⟨_,rfl,rfl⟩
   have h1:=h.one;rcases hx with ⟨caps,hx,he⟩|⟨caps,hx,he⟩
   ·rw[hx]at h1;rw[he];exact sl (nO h1)
   ·rw[he];exact sl mq
  ·exact dP h
 |rd a=>exact dP (pk:=.rd a) h
 |own a=>exact dP (pk:=.own a) h
 |io a=>exact dP (pk:=.io a) h
 |rref a=>exact dP (pk:=.rref a) h
 |rref2 a=>exact dP (pk:=.rref2 a) h
 |iop a=>exact dP (pk:=.iop a) h
 |clo f cs=>exact dP (pk:=.clo f cs) h
 |hol a c off=>exact dP (pk:=.hol a c off) h
theorem sm:∀ (xl ls:List Leaf),st' EPO=st EPO->(∀ q∈ay xl,st' q=st q)->bY st' xl ls=bY st xl ls
 |[],_,_,_=>by simp[bY]
 |x::xl,[],_,_=>by cases x <;> simp[bY]
 |x::xl,l::ls,hE,h=>by
  have ih:=sm xl ls hE (λq hq=>h q (by rw[db];exact AE _ hq));cases x with
  |al r j v =>
   have hr:st' r=st r:=h r (by simp[ay]);simp only[bY,ih,bm hr,bm hE]
  |_=>simp only[bY,ih]
theorem oX {p:Bool}:∀ (ps:List PK) (xs:List (aI×List Leaf)) (y:aj ps),st' EPO=st EPO->(∀ x∈xs,∀ q∈ay x.2,st' q=st q)->aG st' p ps xs y=aG st p ps xs y
 |[],_,_,_,_=>by simp[aG]
 |pk::ps,[],y,_,h=>by cases pk <;> simp[aG]
 |pk::ps,x::xs,y,hE,h=>by
  have ih:=λ (y:aj ps)=>oX (p:=p) ps xs y hE (λz hz=>h z (AF _ hz))
  have hx:=h x (AG ..);cases pk with
  |io a =>
   simp only[aG,ih];rw[sm x.2 _ (bm hE _) (λq hq=>bm (hx q hq) _)]
  |iop a =>
   simp only[aG,ih];have hl:∀ q∈ay [ch x],st' q=st q:=λq hq=>hx q (ic hq)
   congr 1;split
   ·rename_i b v hlf;rw[hlf]at hl;rw[bm (hl b (by simp[ay]))]
   ·rfl
  |_=>exact ih _
theorem oY {n q:Nat}:∀ {ls:List Leaf} {k:Nat},q∈ay (aR ls k (.al TMP 0 n))->q∈ay ls\/q=TMP
 |[],_,h=>.inl h
 |l::ls,0,h=>by
  rw[show aR (l::ls) 0 (.al TMP 0 n)=.al TMP 0 n::ls from rfl,db,AB]at h;rw[db,AB];rcases h with h|h
  ·simp[ay]at h;exact .inr h
  ·exact .inl (.inr h)
 |l::ls,k+1,h=>by
  rw[show aR (l::ls) (k+1) (.al TMP 0 n)=l::aR ls k (.al TMP 0 n) from rfl,db,AB]at h;rw[db,AB];rcases h with h|h
  ·exact .inl (.inl h)
  ·exact (oY h).imp .inr id
theorem nP {U:Upd}{ls0 ls:List Leaf}(hT:st' TMP=st TMP)(hsub:∀ q,q≠TMP->∀ z∈ay (ac U st q).ls,z∈ay (st q).ls)(htmp:ay (ac U st TMP).ls=[])(hx:ed st st' ls0)(hin:∀ q∈ay ls,q∈ay ls0\/q=TMP) :
  ed (ac U st) (ac U st') ls:=by
 have hne:∀ r z,z∈ay (ac U st r).ls->r≠TMP:=λr z hz e=>by subst e;rw[htmp]at hz;simp at hz
 refine⟨λq hq=>?_,λr hr q hq=>?_,λr hr r2 hr2 q hq=>?_⟩
 ·rcases hin q hq with h|h
  ·exact bm (hx.d1 q h) U
  ·subst h;exact bm hT U
 ·have h1:=hne r q hq;exact bm (hx.d2 r ((hin r hr).resolve_right h1) q (hsub r h1 q hq)) U
 ·have h1:=hne r r2 hr2;have h2:=hne r2 q hq;exact bm (hx.d3 r ((hin r hr).resolve_right h1) r2 (hsub r h1 r2 hr2) q (hsub r2 h2 q hq)) U
theorem nc (hT:st' TMP=st TMP)(hE:st' EPO=st EPO):∀ (ps:List PK) (xs:List (aI×List Leaf)),(∀ x∈xs,ed st st' x.2)->cM st' ps xs=cM st ps xs /\
  ∀ (U:Upd) (ys:List (aI×List Leaf)) (b:Option (Bool×Nat×Nat)),cM st ps xs=some (U,ys,b)->(∀ y∈ys,ed (ac U st) (ac U st') y.2)/\(∀ f r j,b=some (f,r,j)->st' r=st r)/\∀ ls,ed st st' ls->ed (ac U st) (ac U st') ls
 |[],xs,h=>⟨rfl,λU ys b hn=>by
   simp only[cM,AA,AS]at hn;obtain⟨rfl,rfl,rfl⟩:=hn;exact⟨h,(λ_ _ _ h=>by cases h),λ_ h=>h⟩⟩
 |_::_,[],h=>⟨rfl,λU ys b hn=>by
   simp only[cM,AA,AS]at hn;obtain⟨rfl,rfl,rfl⟩:=hn;exact⟨h,(λ_ _ _ h=>by cases h),λ_ h=>h⟩⟩
 |p::ps,x::xs,h=>by
  have hx:=h x (AG ..);obtain⟨i1,i2⟩:=nc hT hE ps xs (λy hy=>h y (AF _ hy));simp only[cM];cases hk:p.nest x.2 with
  |none =>
   simp only[i1,true_and];intro U ys b hn;simp only[AI]at hn;obtain⟨u,hu,hn⟩:=hn;simp only[AS]at hn;obtain⟨rfl,rfl,rfl⟩:=hn;obtain⟨j1,j2,j3⟩:=i2 u.1 u.2.1 u.2.2 hu;refine⟨λy hy=>?_,j2,j3⟩;rcases AO.1 hy with rfl|hy
   ·exact j3 _ hx
   ·exact j1 y hy
  |some k =>
   obtain⟨l,hlk,hnal⟩:=qi hk;have hg:x.2.getD k .dead=l:=by rw[AP,hlk];rfl
   have hal:∀ q∈aw [l],st' q=st q:=λq hq=>hx.d1 q (eX (pD hlk q hq))
   simp only[hg,oW hT hE hal,true_and];intro U ys b hn;simp only[AI]at hn;obtain⟨u,hu,hn⟩:=hn;simp only[AS]at hn;obtain⟨rfl,rfl,rfl⟩:=hn;obtain⟨n,e1,hsub⟩:=m9 (U:=u.1) (l':=u.2) hu;have htmp:=sY (U:=u.1) (l':=u.2) hu;refine⟨λy hy=>?_,λf r j hb=>?_,λls hls=>nP hT hsub htmp hls (λq hq=>.inl hq)⟩
   ·rcases AO.1 hy with rfl|hy
    ·refine nP hT hsub htmp hx λq hq=>?_
     have hq:q∈ay (aR x.2 k u.2):=hq;rw[e1]at hq;exact oY hq
    ·exact nP hT hsub htmp (h y (AF _ hy)) (λq hq=>.inl hq)
   ·simp only[AA,AS]at hb;have hr:r=(jf l).1:=by rw[hb.2]
    rw[hr];refine hal _ ?_;cases l with
    |nal p ks ep loc E e xs =>
     cases ks with
     |nil =>
      exfalso;simp only[cg]at hu;cases hv:br st [] ep <;> simp[hv]at hu
     |cons k ks=>rw[gF];simp[jf]
    |_=>simp[iy]at hnal
theorem xp {b:Option (Bool×Nat×Nat)}{U:Upd}(hT:st' TMP=st TMP)(hE:st' EPO=st EPO)(hb:∀ f r j,b=some (f,r,j)->st' r=st r):iX st' b U κ=iX st b U κ:=by
 unfold iX;split
 ·rename_i r j;rw[bm (hb true r j rfl),bm hT,bm hE]
 ·rfl
theorem sn {d:Nat}{f:FuncId}{xs:List (aI×List Leaf)}(hT:st' TMP=st TMP)(hE:st' EPO=st EPO)(hx:∀ x∈xs,ed st st' x.2)(hd:st' d=st d)(hB:st' (B0+d)=st (B0+d)):iz Γ st' d f xs κ=iz Γ st d f xs κ:=by
 unfold iz;split
 ·rename_i c hc;obtain⟨n1,n2⟩:=nc hT hE c.ps xs hx;rw[fM,fM,n1];cases hn:cM st c.ps xs with
  |none=>rfl
  |some u =>
   obtain⟨U0,ys,b⟩:=u;obtain⟨m1,m2,_⟩:=n2 U0 ys b hn;simp only[Am];have hg:=jF (st:=ac U0 st) (st':=ac U0 st') (ga:=bZ Γ (ac U0 st)) (ga':=bZ Γ (ac U0 st')) c.ps ys (λx hx' pk=>uO (m1 x hx'));simp only[ng,hg.1];split
   ·rename_i g hgg;obtain⟨h1,h2⟩:=hg.2 g hgg;have hbox:fQ st' d c.rs=fQ st d c.rs:=by
     unfold fQ;split
     ·rw[hB]
     ·rfl
    have hL:∀ q,ac U0 st' q=ac U0 st q->∀ U,ac (U++U0) st' q=ac (U++U0) st q:=λq h U=>by rw[bw,bw];exact bm h U
    have hfz:(bif c.fresh then [] else aF (ac U0 st') g.frz)=(bif c.fresh then [] else aF (ac U0 st) g.frz):=by rw[jl h1]
    have hk:∀ (U:Upd),aN (ac U (ac U0 st')) g.kill=aN (ac U (ac U0 st)) g.kill:=λU=>gG (λz hz=>bm (h2 z hz) U)
    have ho:∀ (U:Upd) (p:Bool) (y:aj c.ps),aG (ac (U++U0) st') p c.ps ys y=aG (ac (U++U0) st) p c.ps ys y:=λU p y =>
     oX c.ps ys y (hL _ (bm hE U0) U) (λx hx' q hq=>hL _ ((m1 x hx').d1 q hq) U)
    have hver:∀ (U:Upd),(g.frz.map λk=>(k.1,k.2,(ac (U++U0) st' k.1).ver))=g.frz.map λk=>(k.1,k.2,(ac (U++U0) st k.1).ver):=λU=>BL λz hz=>by rw[hL _ (h1 z hz) U]
    have hd':∀ U,ac U st' d=ac U st d:=λU=>bm hd U
    have hB':∀ U,ac U st' (B0+d)=ac U st (B0+d):=λU=>bm hB U
    have hE':∀ U,ac U st' EPO=ac U st EPO:=λU=>bm hE U
    simp only[hbox,hfz,hk,ho,hd',hB',hE',<- Ae,hver,xp hT hE m2]
   ·rfl
 ·rfl
theorem qr:∀ (As:List Ty) (xs:List (aI×List Leaf)),(∀ x∈xs,∀ q∈aw x.2,st' q=st q)->gT st' As xs=gT st As xs
 |[],[],_=>rfl
 |[],_::_,_=>rfl
 |_::_,[],_=>rfl
 |a::As,x::xs,h=>by
  simp only[gT,d7 (h x (AG ..)),qr As xs (λy hy=>h y (AF _ hy))]
theorem uP {r j i off n:Nat}{p:Bool}{E:TypeId}{e:Ty}{xs:List e.den}{h:Option (Nat×Nat)}{ls:List Leaf}(hr:st' r=st r)(hE:st' EPO=st EPO)(hl:∀ q∈aw ls,st' q=st q):fR st' r j i off n p E e xs h ls κ=fR st r j i off n p E e xs h ls κ:=by
 unfold fR;congr 1;funext old;rw[nM e 0 old ls hl];split
 ·rename_i t ht;obtain⟨p1,p2⟩:=nN e 0 old ls t ht;have e1:aF st' t.frz=aF st t.frz:=jl (λz hz=>hl _ (p1 z hz));have e2:∀ U:Upd,aN (ac U st') t.kill=aN (ac U st) t.kill:=λU=>gG (λz hz=>bm (hl _ (p2 z hz)) U)
  simp only[e1,e2,hr,bm hE]
 ·rfl
end
section
variable {P:Program} {V:Env} {Γ:List Ctr} {T:TypeId->TI} {st st':St} {o:Oper} {R:Type} {κ:Upd->Option R} {r:R}
theorem dc {ts:List Nat}(h:∀ q∈ts++ts.flatMap (λt=>aw (st t).ls),st' q=st q){x:Operand}(hx:∀ t,x=.tmp t->t∈ts):(∀ t,x=.tmp t->st' t=st t)/\∀ q∈aw (ar st x).2,st' q=st q:=by
 refine⟨λt ht=>h t (AD _ (hx t ht)),λq hq=>?_⟩;obtain⟨t,ht,hq⟩:=qn hq;rcases hq with rfl|hq
 ·exact h q (AD _ (hx q ht))
 ·exact h q (AE _ (AT.2 ⟨t,hx t ht,hq⟩))
theorem mr {ts:List Nat}(h:∀ q∈ts++ts.flatMap (λt=>ay (st t).ls),st' q=st q){x:Operand}(hx:∀ t,x=.tmp t->t∈ts):(∀ t,x=.tmp t->st' t=st t)/\∀ q∈ay (ar st x).2,st' q=st q:=by
 refine⟨λt ht=>h t (AD _ (hx t ht)),λq hq=>?_⟩;obtain⟨t,ht,hq⟩:=qo hq;rcases hq with rfl|hq
 ·exact h q (AD _ (hx q ht))
 ·exact h q (AE _ (AT.2 ⟨t,hx t ht,hq⟩))
theorem oZ {ts:List Nat}(h:∀ q∈jJ st ts,st' q=st q){x:Operand}(hx:∀ t,x=.tmp t->t∈ts):ed st st' (ar st x).2:=by
 have hts:∀ q,q∈ts->st' q=st q:=λq hq=>h q (by simp[jJ];exact .inl hq)
 have ha:∀ q,q∈ts.flatMap (λt=>ay (st t).ls)->st' q=st q:=λq hq=>h q (by
  unfold jJ;exact AD _ (AD _ (AE _ hq)))
 have hb:∀ q,q∈(ts.flatMap (λt=>ay (st t).ls)).flatMap (λt=>ay (st t).ls)->st' q=st q:=λq hq=>h q (by
  unfold jJ;exact AD _ (AE _ hq))
 have hc:∀ q,q∈((ts.flatMap (λt=>ay (st t).ls)).flatMap (λt=>ay (st t).ls)).flatMap (λt=>ay (st t).ls)->st' q=st q:=λq hq=>h q (by
  unfold jJ;exact AE _ hq)
 have l1:∀ r∈ay (ar st x).2,r∈ts\/r∈ts.flatMap (λt=>ay (st t).ls):=by
  intro r hr;obtain⟨t,ht,hq⟩:=qo hr;rcases hq with rfl|hq
  ·exact .inl (hx r ht)
  ·exact .inr (AT.2 ⟨t,hx t ht,hq⟩)
 have l2:∀ r∈ay (ar st x).2,∀ q∈ay (st r).ls,q∈ts.flatMap (λt=>ay (st t).ls)\/q∈(ts.flatMap (λt=>ay (st t).ls)).flatMap (λt=>ay (st t).ls):=by
  intro r hr q hq;rcases l1 r hr with h1|h1
  ·exact .inl (AT.2 ⟨r,h1,hq⟩)
  ·exact .inr (AT.2 ⟨r,h1,hq⟩)
 refine⟨λq hq=>(l1 q hq).elim (hts q) (ha q),λr hr q hq=>(l2 r hr q hq).elim (ha q) (hb q),λr hr r2 hr2 q hq=>?_⟩;rcases l2 r hr r2 hr2 with h1|h1
 ·exact hb q (AT.2 ⟨r2,h1,hq⟩)
 ·exact hc q (AT.2 ⟨r2,h1,hq⟩)
theorem bg {xs:Array Operand}{x:Operand}(h:x∈xs):∀ t,x=.tmp t->t∈gK xs.toList:=λt e=>qm (by rw[<- e];simpa using h)
theorem op_fr (h:∀ q∈eL st o,st' q=st q)(hm:∀ x,o.op≠.move x)(hi:∀ t x i,o.op≠.indexAddr t x i):∀ q∈ci st o.op,st' q=st q:=λq hq=>h q (by
 unfold eL;refine AD _ ?_;cases hop:o.op with
 |move x=>exact absurd hop (hm x)
 |indexAddr t x i=>exact absurd hop (hi t x i)
 |_=>rw[hop]at hq;exact hq)
theorem yE {α β:Type}{xs:List α}{n:Int}{K:Option β}:((idx xs n).bind λ_=>K)=if 0<=n/\n<xs.length then K else none:=by
 unfold idx;by_cases h0:n<0
 ·rw[if_pos h0,if_neg (by omega)];rfl
 ·rw[if_neg h0];by_cases h1:n.toNat<xs.length
  ·rw[AR h1,if_pos (by omega)];rfl
  ·rw[BF (by omega),if_neg (by omega)];rfl
theorem zx (h:∀ q∈eL st o,st' q=st q)(hh:∀ q∈eo st o.op,bI (st' q)=bI (st q)):act Γ T o st' κ=act Γ T o st κ:=by
 have hop0:=op_fr h;have hput:∀ (U:Upd) (d:Nat) (sh:aI) (ls:List Leaf),o.dst=some d->cj st' U d sh ls=cj st U d sh ls:=λU d sh ls hd=>tI (sk hd h).1
 have hB:∀ d,o.dst=some d->st' (B0+d)=st (B0+d):=λd hd=>(sk hd h).2
 have hw:∀ (sh:aI) (ls:List Leaf),wrU o st' κ sh ls=wrU o st κ sh ls:=by
  intro sh ls;unfold wrU;split
  ·rename_i d hd;rw[hput _ _ _ _ hd]
  ·rfl
 cases hop:o.op with
 |move x =>
  simp only[hop,eo]at hh;have e:ar st' x=ar st x:=we λt ht=>hh t (bg (by simp[Op.operands]) t ht)
  simp only[act,hop,e,hw]
 |assign x =>
  have hop':=hop0 (by simp[hop]) (by simp[hop]);simp only[hop,ci]at hop';have hx:=dc hop' (x:=x) (bg (by simp[Op.operands]));have e:ar st' x=ar st x:=dw hx.1;simp only[act,hop,e,pF hx.2,nL hx.2,sg hx.2];split
  ·rename_i d hd;rw[hput _ _ _ _ hd]
  ·rfl
 |pick c x y =>
  have hop':=hop0 (by simp[hop]) (by simp[hop]);simp only[hop,ci]at hop';have e1:one st' c=one st c:=dk λt ht=>hop' t (bg (by simp[Op.operands]) t ht)
  have e2:ar st' x=ar st x:=dw λt ht=>hop' t (bg (by simp[Op.operands]) t ht)
  have e3:ar st' y=ar st y:=dw λt ht=>hop' t (bg (by simp[Op.operands]) t ht)
  simp only[act,hop,e1,e2,e3,hw]
 |alloc t =>
  simp only[act,hop];split
  ·rename_i d hd;rw[hput _ _ _ _ hd,hB d hd]
  ·rfl
 |box t x =>
  have hop':=hop0 (by simp[hop]) (by simp[hop]);simp only[hop,ci]at hop';have hx:=dc hop' (x:=x) (bg (by simp[Op.operands]));have e:ar st' x=ar st x:=dw hx.1;have hlent:qU st' x=qU st x:=by cases x <;> first|rfl|(simp only[qU];rw[hx.1 _ rfl])
  simp only[act,hop,e,pF hx.2,nL hx.2,sg hx.2,hlent];split
  ·rename_i d hd;simp only[hput _ _ _ _ hd,hB d hd,bm (hB d hd)]
  ·rfl
 |build t parts =>
  have hop':=hop0 (by simp[hop]) (by simp[hop]);simp only[hop,ci]at hop';have hb:∀ flds ls,eK st' flds parts.toList ls=eK st flds parts.toList ls:=λflds ls=>oV _ _ (λx hx t ht=>hop' t (bg (by simp only[Op.operands,BX,AL];exact⟨x,hx,rfl⟩) t ht))
  simp only[act,hop,hw,hb]
 |buildSlice t n parts =>
  have hop':=hop0 (by simp[hop]) (by simp[hop]);simp only[hop,ci]at hop';have hx:∀ x∈parts.toList,(∀ t,x.2=.tmp t->st' t=st t)/\∀ q∈aw (ar st x.2).2,st' q=st q:=λx hx =>
   dc hop' (bg (by simp only[Op.operands,BX,AL];exact⟨x,hx,rfl⟩))
  simp only[act,hop];split
  ·rw[m7 _ _ hx];split
   ·rename_i u hbe;have hpl:=m8 _ _ _ hbe;have hst:∀ z,z∈u.frz\/z∈u.kill->st' z.1=st z.1:=λz hz=>by
     obtain⟨x,hx1,hx2⟩:=hpl z hz;exact (hx x hx1).2 _ hx2
    have e1:aF st' u.frz=aF st u.frz:=jl λz hz=>hst z (.inl hz)
    have e2:∀ U:Upd,aN (ac U st') u.kill=aN (ac U st) u.kill:=λU=>gG (λz hz=>bm (hst z (.inr hz)) U)
    simp only[e1,e2];congr 1;split
    ·rename_i d hd;rw[hput _ _ _ _ hd]
    ·rfl
   ·rfl
  ·rfl
 |load t x =>
  have hop':=hop0 (by simp[hop]) (by simp[hop]);simp only[hop,ci]at hop';have hx:=mr hop' (x:=x) (bg (by simp[Op.operands]));have e:one st' x=one st x:=dk hx.1;have hr:∀ q∈ay [one st x],st' q=st q:=λq hq=>hx.2 q (si hq)
  simp only[act,hop,e,hw];congr 1;split
  ·rfl
  ·rename_i b off hl;rw[hl]at hr;rw[hr b (by simp[ay])]
  ·rfl
  ·rename_i p ks ep a y off hl;rw[hl]at hr;rw[iL (λq hq=>hr q (by simpa[ay]using hq))]
  ·rename_i r j v i sz off hl;rw[hl]at hr;rw[cf (l:=.al r j v) (λq hq=>hr q (by simp[aw]at hq;simp[ay,hq])),hr EPO (by simp[ay])]
  ·rfl
 |store t x y =>
  have hop':=hop0 (by simp[hop]) (by simp[hop]);simp only[hop,ci]at hop';have hx:=mr hop' (x:=x) (bg (by simp[Op.operands]));have hy:=mr hop' (x:=y) (bg (by simp[Op.operands]));have e:one st' x=one st x:=dk hx.1;have e2:ar st' y=ar st y:=dw hy.1;have hr:∀ q∈ay [one st x],st' q=st q:=λq hq=>hx.2 q (si hq)
  have hya:∀ q∈aw (ar st y).2,st' q=st q:=λq hq=>hy.2 q (eX hq)
  simp only[act,hop,e,e2,pF hya,nL hya,sg hya];split
  ·rfl
  ·congr 1;split
   ·rename_i b off hl;rw[hl]at hr;have hb:=hr b (by simp[ay]);simp only[hb,bm hb]
   ·rename_i r j v i sz off hl;rw[hl]at hr;have hrr:=hr r (by simp[ay]);rw[cf (l:=.al r j v) (λq hq=>hr q (by simp[aw]at hq;simp[ay,hq]))];split
    ·rw[uP hrr (hr EPO (by simp[ay])) hya]
    ·rfl
   ·rfl
 |nilCheck x =>
  have hop':=hop0 (by simp[hop]) (by simp[hop]);simp only[hop,ci]at hop';have hx:=dc hop' (x:=x) (bg (by simp[Op.operands]));have e:one st' x=one st x:=dk hx.1;have hr:∀ q∈aw [one st x],st' q=st q:=λq hq=>hx.2 q (iv hq)
  simp only[act,hop,e,hw];split
  ·rfl
  ·rfl
  ·rename_i r j v i sz off hl;rw[hl]at hr;rw[hr r (by simp[aw])]
  ·rfl
  ·rename_i p ks ep a y off hl;rw[hl,tH]at hr;rw[iL hr]
  ·rfl
 |binOp op t x y t' =>
  have hop':=hop0 (by simp[hop]) (by simp[hop]);simp only[hop,ci]at hop';have hx:=dc hop' (x:=x) (bg (by simp[Op.operands]));have hy:=dc hop' (x:=y) (bg (by simp[Op.operands]));have e1:one st' x=one st x:=dk hx.1;have e2:one st' y=one st y:=dk hy.1;have e3:ar st' x=ar st x:=dw hx.1;have e4:ar st' y=ar st y:=dw hy.1;simp only[act,hop,e1,e2,e3,e4,hw,d7 hx.2,d7 hy.2]
 |unOp op t x =>
  have hop':=hop0 (by simp[hop]) (by simp[hop]);simp only[hop,ci]at hop';have e1:one st' x=one st x:=dk λt ht=>hop' t (bg (by simp[Op.operands]) t ht)
  simp only[act,hop,e1,hw]
 |convert s t x =>
  have hop':=hop0 (by simp[hop]) (by simp[hop]);simp only[hop,ci]at hop';have hx:=dc hop' (x:=x) (bg (by simp[Op.operands]));have e1:one st' x=one st x:=dk hx.1;have hr:∀ q∈aw [one st x],st' q=st q:=λq hq=>hx.2 q (iv hq)
  simp only[act,hop,e1,hw];split
  ·rfl
  ·rw[cf hr]
  ·rfl
  ·rfl
 |makeSlice t n c =>
  have hop':=hop0 (by simp[hop]) (by simp[hop]);simp only[hop,ci]at hop';have e1:one st' n=one st n:=dk λt ht=>hop' t (bg (by simp[Op.operands]) t ht)
  have e2:one st' c=one st c:=dk λt ht=>hop' t (bg (by simp[Op.operands]) t ht)
  simp only[act,hop,e1,e2,hw]
 |slice t x lo hi mx =>
  have hop':=hop0 (by simp[hop]) (by simp[hop]);simp only[hop,ci]at hop';have hE:=hop' EPO (AG ..);have hop':=λq hq=>hop' q (AF _ hq)
  have hx:=dc hop' (x:=x) (bg (by simp[Op.operands]));have hlo:∀ n,cW st' lo n=cW st lo n:=λn=>mn λy hy t ht=>hop' t (AD _ (bg (by simp[Op.operands,hy]) t ht))
  have hhi:∀ n,cW st' hi n=cW st hi n:=λn=>mn λy hy t ht=>hop' t (AD _ (bg (by simp[Op.operands,hy]) t ht))
  have e:one st' x=one st x:=dk hx.1;have hr:∀ q∈aw [one st x],st' q=st q:=λq hq=>hx.2 q (iv hq)
  have hmx:∀ m,mx=some m->cW st' (some m) 0=cW st (some m) 0:=λm hm=>mn λy hy t ht=>hop' t (AD _ (bg (by simp[Op.operands,hm,Bc hy]) t ht))
  simp only[act,hop,e,hlo,hhi,cf hr,hE];cases hd:o.dst with
  |none=>cases mx <;> rfl
  |some d =>
   cases mx with
   |none=>simp only[hput _ _ _ _ hd]
   |some m =>
    simp only[hmx m rfl];split
    ·rename_i r j v _ hl _;rw[hl]at hr;rw[cf hr,gG (st:=st) (st':=st') (λz hz=>by simp at hz;subst hz;exact hr _ (by simp[aw]))];simp only[hput _ _ _ _ hd]
    ·rfl
 |fieldAddr t x f =>
  have hop':=hop0 (by simp[hop]) (by simp[hop]);simp only[hop,ci]at hop';have hx:=dc hop' (x:=x) (bg (by simp[Op.operands]));have e:one st' x=one st x:=dk hx.1;have hr:∀ q∈aw [one st x],st' q=st q:=λq hq=>hx.2 q (iv hq)
  simp only[act,hop,e,hw];split
  ·split
   ·split
    ·rfl
    ·rfl
    ·rename_i r j v i sz off hl;rw[hl]at hr;rw[hr r (by simp[aw])]
    ·rename_i p ks ep a y o' hl;rw[hl,tH]at hr;rw[iL hr]
    ·rfl
   ·rfl
  ·rfl
 |field t x f =>
  have hop':=hop0 (by simp[hop]) (by simp[hop]);simp only[hop,ci]at hop';have e1:ar st' x=ar st x:=dw λt ht=>hop' t (bg (by simp[Op.operands]) t ht)
  simp only[act,hop,e1,hw]
 |indexAddr t x i =>
  simp only[hop,eo]at hh;have hsl:∀ y∈(Op.indexAddr t x i).operands,∀ t,y=.tmp t->bI (st' t)=bI (st t):=λy hy t ht=>hh t (AD _ (bg hy t ht))
  have e:one st' x=one st x:=xJ (hsl x (by simp[Op.operands]));have e2:one st' i=one st i:=xJ (hsl i (by simp[Op.operands]));have hr:∀ q∈aw [one st x],bI (st' q)=bI (st q):=λq hq=>by
   obtain⟨t',ht',hq⟩:=qn (iv hq);have hts:=bg (xs:=(Op.indexAddr t x i).operands) (x:=x) (by simp[Op.operands]) t' ht';rcases hq with rfl|hq
   ·exact hh q (AD _ hts)
   ·exact hh q (AE _ (AT.2 ⟨t',hts,hq⟩))
  simp only[act,hop,e,e2,hw];split
  ·split
   ·rfl
   ·split
    ·rename_i r j v hl;rw[hl]at hr;have hq:=hr r (by simp[aw]);have hv:(st' r).ver=(st r).ver:=by simp only[bI,AS]at hq;exact hq.1
     simp only[aD,hv];cases AJ (st r).ver v with
     |false=>rfl
     |true =>
      simp only[cond_true];rcases sj (wg hq j) with e3|⟨p,p',h1,h2,E1,E2,e',e'',xs,xs',e3,e4,e5,e6⟩
      ·rw[e3]
      ·rw[e3,e4];simp only[nU,e5,yE,e6]
    ·rfl
    ·rename_i p ks ep loc E' e' xs hl;rw[hl,gF]at hr;rw[xo hr]
    ·rfl
   ·rfl
  ·rfl
 |index t x i =>
  have hop':=hop0 (by simp[hop]) (by simp[hop]);simp only[hop,ci]at hop';have hx:=dc hop' (x:=x) (bg (by simp[Op.operands]));have e1:one st' x=one st x:=dk hx.1;have e2:one st' i=one st i:=dk (dc hop' (x:=i) (bg (by simp[Op.operands]))).1;have e3:ar st' x=ar st x:=dw hx.1;simp only[act,hop,e1,e2,e3,hw,λe n=>mj (e:=e) n _ hx.2]
 |extract x i =>
  have hop':=hop0 (by simp[hop]) (by simp[hop]);simp only[hop,ci]at hop';have e1:ar st' x=ar st x:=dw λt ht=>hop' t (bg (by simp[Op.operands]) t ht)
  simp only[act,hop,e1,hw]
 |makeFunc fn first caps =>
  have hop':=hop0 (by simp[hop]) (by simp[hop]);simp only[hop,ci]at hop';cases fn with
  |func f =>
   have:qW st' caps.toList=qW st caps.toList:=tJ (st:=st) (st':=st') caps.toList (some []) (λx hx t ht=>hop' t (bg (by simp[Op.operands];exact .inr (by simpa using hx)) t ht));simp only[act,hop,hw,this]
  |_=>simp only[act,hop]
 |call c =>
  have hop':=hop0 (by simp[hop]) (by simp[hop]);simp only[hop,ci]at hop';simp only[act,hop];split
  ·rfl
  ·rename_i d hd;obtain⟨hdd,hdB⟩:=sk hd h;cases hc:c.callee with
   |value f =>
    simp only[hc]at hop';have hT:=hop' TMP (AG ..);have hE:=hop' EPO (AF _ (AG ..));have hop':=λq hq=>hop' q (AF _ (AF _ hq))
    have hmf:f∈(Op.call c).operands:=by simp[Op.operands,Call.operands,hc]
    have hma:∀ x∈c.args.toList,x∈(Op.call c).operands:=λx hx=>by
     simp only[Op.operands,Call.operands,hc,BY];exact .inr (by simpa using hx)
    have hts:∀ x∈(Op.call c).operands,∀ t,x=.tmp t->st' t=st t:=λx hx t ht=>hop' t (by
     unfold jJ;exact AD _ (AD _ (AD _ (bg hx t ht))))
    have e1:one st' f=one st f:=dk (hts f hmf);have e2:c.args.toList.map (ar st')=c.args.toList.map (ar st):=BL λx hx=>dw (hts x (hma x hx))
    have hdeep:∀ x∈c.args.toList.map (ar st),ed st st' x.2:=by
     intro x hx;obtain⟨y,hy,rfl⟩:=AL.1 hx;exact oZ hop' (bg (hma y hy))
    simp only[e1,e2];split
    ·rename_i g caps hl;refine sn hT hE ?_ hdd hdB;intro x hx;rcases AB.1 hx with hx|hx
     ·exact hdeep x hx
     ·obtain⟨b,hb,rfl⟩:=AL.1 hx;have hf:=oZ hop' (bg hmf);rw[pG hl (by simp)]at hf;exact nO hf _ (AL.2 ⟨b,hb,rfl⟩)
    ·rename_i g caps hl;refine sn hT hE ?_ hdd hdB;intro x hx;rcases AB.1 hx with hx|hx
     ·exact hdeep x hx
     ·obtain⟨cp,hcp,rfl⟩:=AL.1 hx;exact mq _ (AL.2 ⟨cp,hcp,rfl⟩)
    ·rename_i As B φ hl;rw[qr As _ (λx hx q hq=>(hdeep x hx).d1 q (eX hq))];simp only[hw]
    ·rfl
   |builtin b =>
    simp only[hc]at hop';have hT:=hop' TMP (AG ..);have hop':=λq hq=>hop' q (AF _ hq)
    have hma:∀ x∈c.args.toList,x∈(Op.call c).operands:=λx hx=>by
     simp only[Op.operands,Call.operands,hc,BY];exact .inr (by simpa using hx)
    have hx:∀ x∈c.args.toList,one st' x=one st x/\∀ q∈aw [one st x],st' q=st q:=λx hx=>by
     have:=dc hop' (bg (hma x hx));exact⟨dk this.1,λq hq=>this.2 q (iv hq)⟩
    cases b with
    |len =>
     dsimp only;split
     ·rename_i x hxx;have h1:=hx x (by rw[hxx];simp);simp only[h1.1,cf h1.2,hw]
     ·rfl
    |append =>
     dsimp only;split
     ·rename_i x y t u hxx _;have h1:=hx x (by rw[hxx];simp);have h2:=hx y (by rw[hxx];simp);split
      ·rw[h1.1,h2.1,uN hT h1.2 h2.2 hdd]
      ·rfl
     ·rfl
    |min =>
     dsimp only;split
     ·rename_i x y hxx;rw[(hx x (by rw[hxx];simp)).1,(hx y (by rw[hxx];simp)).1];simp only[hw]
     ·rfl
    |max =>
     dsimp only;split
     ·rename_i x y hxx;rw[(hx x (by rw[hxx];simp)).1,(hx y (by rw[hxx];simp)).1];simp only[hw]
     ·rfl
    |_=>rfl
   |invoke x n=>rfl
 |_=>simp only[act,hop]
end
section
variable {P:Program} {V:Env} {Γ:List Ctr} {T:TypeId->TI} {st st':St} {o:Oper} {R:Type} {all:Array Oper}
def lv (Γ:List Ctr)(T:TypeId->TI)(all:Array Oper)(o:Oper)(st:St)(U:Upd):Prop :=
 match o.guard with
 |none=>act Γ T o st some=some U
 |some (j,want)=>∃ t,(all[j]?).bind (·.dst)=some t /\
  ((∃ b,(st t).sh=.one/\(st t).ls=[.bool b]/\((b=want/\act Γ T o st some=some U)\/(b≠want/\U=d9 st o)))\/((st t).sh=.und/\U=d9 st o))
def iM (Γ:List Ctr)(T:TypeId->TI)(all:Array Oper)(o:Oper)(st:St)(U:Upd)(t:cC):Prop :=
 ((∀ q∈U.map (·.1),q∈t.wr\/q∈t.cw)/\(∀ q∈t.wr,q∈U.map (·.1))/\∀ q,q∈U.map (·.1)->q∉t.wr->bI (ac U st q)=bI (st q))/\match o.guard with
 |none=>act Γ T o st some=some U/\(∀ q∈eL st o,q∈t.rd)/\∀ q∈eo st o.op,q∈t.hd
 |some (j,want)=>∃ s,(all[j]?).bind (·.dst)=some s/\s∈t.rd /\
  ((∃ b,(st s).sh=.one/\(st s).ls=[.bool b]/\((b=want/\act Γ T o st some=some U/\(∀ q∈eL st o,q∈t.rd)/\∀ q∈eo st o.op,q∈t.hd)\/(b≠want/\U=d9 st o/\∀ d,o.dst=some d->d∈t.wr))) \/
   ((st s).sh=.und/\U=d9 st o/\∀ d,o.dst=some d->d∈t.wr))
theorem so {α:Type}:∀ {l:List α} {j:Nat} {x:α},l[j]?=some x->l.set j x=l
 |[],_,_,h=>by simp at h
 |y::l,0,x,h=>by simp at h;subst h;rfl
 |y::l,j+1,x,h=>by rw[BR,so (by simpa using h)]
theorem yF {U:Upd}(h:act Γ T o st some=some U):∀ q∈dC st o,bI (ac U st q)=bI (st q):=by
 intro q hq;unfold dC at hq;split at hq
 ·rename_i t x y hop;split at hq
  ·rename_i r j ver i sz off hx;simp only[Ah]at hq;subst hq;simp only[act,wrU,hop]at h;split at h
   ·cases h
   ·cases hb:AJ (ar st y).2.length (T t).cells&&decide ((ar st y).1=bj (T t).agg)&&!decide ((T t).cells=0) with
    |false=>simp[hb]at h
    |true =>
     simp only[hb,cond_true,hx]at h;split at h
     ·rename_i p hh E e xs hd;cases hc:AJ sz e.cells&&decide (off+(ar st y).2.length<=e.cells)&&qG q with
      |false=>simp[hc]at h
      |true =>
       simp only[hc,cond_true]at h;obtain⟨_,hl⟩:=eC hd (by simp);have key:∀ (p':Bool) (hh':Option (Nat×Nat)) (v:e.den) (X:Upd),bI (ac ((q,⟨(st q).ver,(st q).sh,aR (st q).ls j (.own p' hh' E e (xs.set i v))⟩)::X) st q)=bI (st q):=by
        intro p' hh' v X;rw[aP,bk];simp only[bI,aR];rw[List.map_set,so];rw[BU,hl];simp[iE]
       unfold fR at h;obtain⟨old,_,h⟩:=Af.1 h;split at h
       ·rename_i t _;cases hd2:t.rest.isEmpty&&aX t.kill&&dg t.frz t.kill&&!((t.kill++t.frz).any λk=>AJ k.1 q) with
        |false=>rw[hd2]at h;cases h
        |true =>
         simp only[hd2,cond_true]at h;cases hh with
         |none =>
          simp only[AA]at h;rw[<- h];exact key _ _ _ _
         |some hp =>
          obtain⟨hi,ho⟩:=hp;simp only at h;cases h1:BK off ho&&BD ho (off+(ar st y).2.length) with
          |false =>
           rw[h1]at h;simp only[cond_false,AA]at h;rw[<- h];exact key _ _ _ _
          |true =>
           rw[h1]at h;simp only[cond_true]at h;cases h2:AJ i hi <;> rw[h2]at h <;> simp only[cond_true,cond_false,AA]at h <;> rw[<- h] <;> exact key _ _ _ _
       ·cases h
     ·cases h
  ·simp at hq
 ·simp at hq
theorem nQ {t:Nat}{b:Bool}(h1:(st t).sh=.one)(h2:(st t).ls=[.bool b]):lit st t b=st:=by
 funext q;unfold lit;rcases am t q ⟨(st t).ver,.one,[.bool b]⟩ st with ⟨rfl,e⟩|⟨_,e⟩
 ·rw[e,<- h1,<- h2]
 ·exact e
theorem uQ {U:Upd}(h:act Γ T o st some=some U):(∀ q∈U.map (·.1),q∈(U.map (·.1)).filter (λq=>!((dC st o).any (AJ q)))\/q∈dC st o)/\(∀ q∈(U.map (·.1)).filter (λq=>!((dC st o).any (AJ q))),q∈U.map (·.1)) /\
  ∀ q,q∈U.map (·.1)->q∉(U.map (·.1)).filter (λq=>!((dC st o).any (AJ q)))->bI (ac U st q)=bI (st q):=by
 have hany:∀ q,(dC st o).any (AJ q)=true->q∈dC st o:=λq hq=>by
  obtain⟨x,hx,he⟩:=Ax.1 hq;rw[AH he];exact hx
 refine⟨λq hq=>?_,λq hq=>(At.1 hq).1,λq hq hn=>?_⟩
 ·cases hc:(dC st o).any (AJ q) with
  |true=>exact .inr (hany q hc)
  |false=>exact .inl (At.2 ⟨hq,by rw[hc];rfl⟩)
 ·refine yF h q (hany q ?_);cases hc:(dC st o).any (AJ q) with
  |true=>rfl
  |false=>exact absurd (At.2 ⟨hq,by rw[hc];rfl⟩) hn
theorem yG {κ:St->cC->Option R}{r:R}(h:opK Γ T all o st κ=some r):∃ U t,iM Γ T all o st U t/\κ (ac U st) t=some r:=by
 have hgo:∀ (more:List Nat),act Γ T o st (λU=>κ (ac U st) ⟨more++eL st o,eo st o.op,(U.map (·.1)).filter (λq=>!((dC st o).any (AJ q))),dC st o⟩)=some r ->
   ∃ U,act Γ T o st some=some U/\κ (ac U st) ⟨more++eL st o,eo st o.op,(U.map (·.1)).filter (λq=>!((dC st o).any (AJ q))),dC st o⟩=some r:=by
  intro more h;rw[sf]at h;obtain⟨U,h1,h2⟩:=Af.1 h;exact⟨U,h1,h2⟩
 have hskip:((∀ q∈(d9 st o).map (·.1),q∈o.dst.toList\/q∈([]:List Nat))/\(∀ q∈o.dst.toList,q∈(d9 st o).map (·.1))/\∀ q,q∈(d9 st o).map (·.1)->q∉o.dst.toList->bI (ac (d9 st o) st q)=bI (st q)):=by
  unfold d9;cases o.dst with
  |none=>simp
  |some d=>simp
 unfold opK at h;unfold iM;cases hg:o.guard with
 |none =>
  simp only[hg]at h;obtain⟨U,h1,h2⟩:=hgo [] h;exact⟨U,_,⟨uQ h1,h1,λq hq=>by simpa using hq,λq hq=>hq⟩,h2⟩
 |some jw =>
  obtain⟨j,want⟩:=jw;simp only[hg]at h;split at h
  ·rename_i t ht;have hdst:∀ d,o.dst=some d->d∈o.dst.toList:=λd hd=>by simp[hd]
   split at h
   ·rename_i b hsh hls;have hl:∀ b',b'=b->lit st t b'=st:=λb' e=>nQ hsh (by rw[hls,e])
    cases b with
    |true =>
     simp only[cond_true,hl true rfl]at h;cases want with
     |true =>
      simp only[cond_true]at h;obtain⟨U,h1,h2⟩:=hgo [t] h;exact⟨U,_,⟨uQ h1,t,ht,by simp,.inl ⟨true,hsh,hls,.inl ⟨rfl,h1,λq hq=>AE _ hq,λq hq=>hq⟩⟩⟩,h2⟩
     |false =>
      simp only[cond_false]at h;exact⟨d9 st o,_,⟨hskip,t,ht,by simp,.inl ⟨true,hsh,hls,.inr ⟨by simp,rfl,hdst⟩⟩⟩,h⟩
    |false =>
     simp only[cond_false,hl false rfl]at h;cases want with
     |true =>
      simp only[cond_true]at h;exact⟨d9 st o,_,⟨hskip,t,ht,by simp,.inl ⟨false,hsh,hls,.inr ⟨by simp,rfl,hdst⟩⟩⟩,h⟩
     |false =>
      simp only[cond_false]at h;obtain⟨U,h1,h2⟩:=hgo [t] h;exact⟨U,_,⟨uQ h1,t,ht,by simp,.inl ⟨false,hsh,hls,.inl ⟨rfl,h1,λq hq=>AE _ hq,λq hq=>hq⟩⟩⟩,h2⟩
   ·rename_i hsh;exact⟨d9 st o,_,⟨hskip,t,ht,by simp,.inr ⟨hsh,rfl,hdst⟩⟩,h⟩
   ·cases h
  ·cases h
theorem tK {U:Upd}(e:U=d9 st o)(hd:∀ d,o.dst=some d->st' d=st d):U=d9 st' o:=by
 rw[e];unfold d9;cases hdd:o.dst with
 |none=>rfl
 |some d=>simp only[hd d hdd]
theorem iM.frame {U:Upd}{t:cC}(h:iM Γ T all o st U t)(hs:∀ q,q∈t.rd\/q∈t.wr->st' q=st q)(hh:∀ q∈t.hd,bI (st' q)=bI (st q)):lv Γ T all o st' U:=by
 obtain⟨_,h⟩:=h;have hact:act Γ T o st some=some U->(∀ q∈eL st o,q∈t.rd)->(∀ q∈eo st o.op,q∈t.hd)->act Γ T o st' some=some U:=by
  intro h1 h2 h3;rw[zx (λq hq=>hs q (.inl (h2 q hq))) (λq hq=>hh q (h3 q hq))];exact h1
 unfold lv;cases hg:o.guard with
 |none =>
  rw[hg]at h;exact hact h.1 h.2.1 h.2.2
 |some jw =>
  obtain⟨j,want⟩:=jw;rw[hg]at h;obtain⟨s,h1,h2,h3⟩:=h;have hss:=hs s (.inl h2);refine⟨s,h1,?_⟩;rw[hss];rcases h3 with ⟨b,h4,h5,h6⟩|⟨h4,h5,h6⟩
  ·refine .inl ⟨b,h4,h5,?_⟩;rcases h6 with ⟨h7,h8,h9,h10⟩|⟨h7,h8,h9⟩
   ·exact .inl ⟨h7,hact h8 h9 h10⟩
   ·exact .inr ⟨h7,tK h8 (λd hd=>hs d (.inr (h9 d hd)))⟩
  ·exact .inr ⟨h4,tK h5 (λd hd=>hs d (.inr (h6 d hd)))⟩
theorem uR (hV:ax V)(hT:TOk P T)(hΓ:∀ c∈Γ,af P c){ops:Array Oper}{i:Nat}(hi:ops[i]?=some o)(hok:bL V o)(hguard:∀ j want,o.guard=some (j,want)->∀ s,(ops[j]?).bind (·.dst)=some s->s<V.nt)
  {U:Upd} (h:lv Γ T ops o st U) {a:Act} {w:World} (hr:Rel P V st a w) {K:Act->World->Prop} {Q:Exit->Act->World->Prop} (hK:∀ a' w',Rel P V (ac U st) a' w'->K a' w'):wpOp P ops Q i K a w:=by
 obtain⟨W,hr⟩:=hr;unfold wpOp;simp only[hi];have hgo:act Γ T o st some=some U->o.wp P a w K Q:=by
  intro h1;obtain⟨U',h2,h3⟩:=zw hV hT hΓ hok h1;cases h2;exact h3 W a w hr K Q hK
 have hskip:U=d9 st o->K (a.put o.dst undef) w:=by
  intro e;refine hK _ _ ?_;subst e;unfold d9;cases hd:o.dst with
  |none=>exact⟨W,hr⟩
  |some d=>exact hr.putLs hV d (hok d hd).1 (hok d hd).2 _ .und [] undef [] (Aq _) ⟨rfl,rfl⟩ trivial
 unfold lv at h;cases hg:o.guard with
 |none =>
  rw[hg]at h;have hw:Region.wanted o (yielded ops a.tmps)=true:=by simp[Region.wanted,hg]
  rw[if_pos hw];exact .inl (hgo h)
 |some jw =>
  obtain⟨j,want⟩:=jw;rw[hg]at h;obtain⟨s,h1,h2⟩:=h;have hsn:=hguard j want hg s h1;have hsB:s<GH:=BS hsn hV.nt;have hslot:=hr.slots s hsB;have hsz:s<a.tmps.size:=by rw[hr.nt];exact hsn
  have hget:a.tmps[s]?=some (a.tmps.getD s undef):=by
   rw[AN,AM hsz];rfl
  rcases h2 with ⟨b,h3,h4,h5⟩|⟨h3,h5⟩
  ·have hlen:=hr.len s;rw[h4]at hlen;rw[h3]at hslot;have hslot:W.cs s=[a.tmps.getD s undef]:=hslot;have hv:=hr.leaf s 0 (.bool b) (a.tmps.getD s undef) (by rw[h4];rfl) (by rw[hslot];rfl);have hv:a.tmps.getD s undef=.bool b:=hv;have hy:yielded ops a.tmps j=some b:=by simp[yielded,h1,hget,hv]
   rcases h5 with ⟨rfl,h6⟩|⟨h6,h7⟩
   ·have hw:Region.wanted o (yielded ops a.tmps)=true:=by simp[Region.wanted,hg,hy]
    rw[if_pos hw];exact .inl (hgo h6)
   ·have hw:Region.wanted o (yielded ops a.tmps)=false:=by
     simp only[Region.wanted,hg,hy];cases b <;> cases want <;> simp at h6 <;> rfl
    rw[hw];exact hskip h7
  ·rw[h3]at hslot;obtain⟨hv,_⟩:=hslot;have hy:yielded ops a.tmps j=none:=by
    unfold yielded;rw[h1,Am,hget,hv];rfl
   have hw:Region.wanted o (yielded ops a.tmps)=false:=by simp[Region.wanted,hg,hy]
   rw[hw];exact hskip h5
def Run (Γ:List Ctr)(T:TypeId->TI)(all:Array Oper):St->List Oper->List Upd->List cC->St->Prop
 |st,[],[],[],st'=>st'=st
 |st,o::os,U::us,t::ts,st'=>iM Γ T all o st U t/\Run Γ T all (ac U st) os us ts st'
 |_,_,_,_,_=>False
theorem nR:∀ (os:List Oper) (st:St) (ts:List cC) (κ:St->List cC->Option R) (r:R),o9 Γ T all os st ts κ=some r ->
  ∃ us ts' st',Run Γ T all st os us ts' st'/\κ st' (ts++ts')=some r
 |[],st,ts,κ,r,h=>⟨[],[],st,rfl,by simpa[o9]using h⟩
 |o::os,st,ts,κ,r,h=>by
  simp only[o9]at h;obtain⟨U,t,h1,h2⟩:=yG h;obtain⟨us,ts',st',h3,h4⟩:=nR os (ac U st) (ts++[t]) κ r h2;exact⟨U::us,t::ts',st',⟨h1,h3⟩,by rw[Ae]at h4;exact h4⟩
theorem iM.res {U:Upd}{t:cC}(h:iM Γ T all o st U t):lv Γ T all o st U:=h.frame (λ_ _=>rfl) (λ_ _=>rfl)
theorem tL (hV:ax V)(hT:TOk P T)(hΓ:∀ c∈Γ,af P c){ops:Array Oper}(hok:∀ (i:Nat) (o:Oper),ops[i]?=some o->bL V o)
  (hguard:∀ (i:Nat) (o:Oper),ops[i]?=some o->∀ j want,o.guard=some (j,want)->∀ s,(ops[j]?).bind (·.dst)=some s->s<V.nt) {Q:Exit->Act->World->Prop} :
  ∀ (os:List Oper) (k:Nat) (st:St) (us:List Upd) (ts:List cC) (st':St),ops.toList.drop k=os->Run Γ T ops st os us ts st'->(∀ a w,Rel P V st' a w->Q .normal a w) ->
   ∀ a w,Rel P V st a w->wpOps P ops Q (List.range' k os.length) a w
 |[],k,st,[],[],st',_,h,hQ,a,w,hr=>by
  have h:st'=st:=h;subst h;exact hQ a w hr
 |o::os,k,st,U::us,t::ts,st',hk,h,hQ,a,w,hr=>by
  obtain⟨h1,h2⟩:=h;have hi:ops[k]?=some o:=by
   have:(ops.toList.drop k)[0]?=some o:=by rw[hk];rfl
   rw[List.getElem?_drop]at this;simpa using this
  rw[An,List.range'_succ,wpOps_cons];refine uR hV hT hΓ hi (hok k o hi) (hguard k o hi) h1.res hr (λa' w' hr'=>?_);exact tL hV hT hΓ hok hguard os (k+1) (ac U st) us ts st' (by rw[<- BH,hk];rfl) h2 hQ a' w' hr'
end
section
variable {P:Program} {V:Env} {Γ:List Ctr} {T:TypeId->TI} {st st':St} {o:Oper} {R:Type} {all:Array Oper}
def cU (D:Nat->Bool):List Upd->St->St
 |[],st=>st
 |U::us,st=>cU (λj=>D (j+1)) us (bif D 0 then ac U st else st)
theorem iw {q:Nat}:∀ {U:Upd} (s s':St),q∈U.map (·.1)->ac U s q=ac U s' q
 |[],_,_,h=>by simp at h
 |(r,c)::U,s,s',h=>by
  simp only[ac];cases hb:AJ q r with
  |true=>rfl
  |false =>
   simp only[cond_false];refine iw s s' ?_;simp only[AY,AO]at h;rcases h with rfl|h
   ·simp at hb
   ·exact h
theorem d8 {q:Nat}:∀ {U:Upd} (s:St),q∉U.map (·.1)->ac U s q=s q
 |[],_,_=>rfl
 |(r,c)::U,s,h=>by
  simp only[AY,AO,not_or]at h;have hb:AJ q r=false:=by
   cases hb:AJ q r with
   |false=>rfl
   |true=>exact absurd (AH hb) h.1
  simp only[ac,hb,cond_false];exact d8 s h.2
theorem wh {U U':Upd}(h:∀ q,q∈U.map (·.1)->q∉U'.map (·.1))(s:St):ac U' (ac U s)=ac U (ac U' s):=by
 funext q;by_cases h1:q∈U.map (·.1)
 ·rw[d8 _ (h q h1)];exact iw _ _ h1
 ·rw[d8 (U:=U) _ h1];by_cases h2:q∈U'.map (·.1)
  ·exact iw _ _ h2
  ·rw[d8 _ h2,d8 _ h2,d8 _ h1]
theorem lw:∀ {us:List Upd} {D D':Nat->Bool} {s:St},(∀ j,j<us.length->D j=D' j)->cU D us s=cU D' us s
 |[],_,_,_,_=>rfl
 |U::us,D,D',s,h=>by
  simp only[cU];rw[h 0 (by simp)];exact lw (λj hj=>h (j+1) (by simpa using hj))
theorem mt:∀ {us:List Upd} {D:Nat->Bool} {s:St},(∀ j,D j=false)->cU D us s=s
 |[],_,_,_=>rfl
 |U::us,D,s,h=>by
  simp only[cU,h 0,cond_false];exact mt (λj=>h (j+1))
theorem lx {q:Nat}:∀ {us:List Upd} {D D':Nat->Bool} {s s':St},s q=s' q->(∀ (j:Nat) (U:Upd),us[j]?=some U->q∈U.map (·.1)->D j=D' j)->cU D us s q=cU D' us s' q
 |[],_,_,_,_,h,_=>h
 |U::us,D,D',s,s',h,H=>by
  simp only[cU];refine lx ?_ (λj U' h1 h2=>H (j+1) U' (by simpa using h1) h2);by_cases hq:q∈U.map (·.1)
  ·rw[H 0 U rfl hq];cases D' 0 with
   |true=>exact iw _ _ hq
   |false=>exact h
  ·have e1:∀ b:Bool,(bif b then ac U s else s) q=s q:=by intro b;cases b <;> simp[d8 _ hq]
   have e2:∀ b:Bool,(bif b then ac U s' else s') q=s' q:=by intro b;cases b <;> simp[d8 _ hq]
   rw[e1,e2,h]
theorem mu {U:Upd}:∀ {us:List Upd} {D:Nat->Bool} {s:St},(∀ (j:Nat) (U':Upd),us[j]?=some U'->D j=true->∀ q,q∈U.map (·.1)->q∉U'.map (·.1))->cU D us (ac U s)=ac U (cU D us s)
 |[],_,_,_=>rfl
 |U'::us,D,s,h=>by
  simp only[cU];cases hD:D 0 with
  |true =>
   simp only[cond_true];rw[wh (h 0 U' rfl hD)];exact mu (λj U'' h1 h2=>h (j+1) U'' (by simpa using h1) h2)
  |false =>
   simp only[cond_false];exact mu (λj U'' h1 h2=>h (j+1) U'' (by simpa using h1) h2)
theorem nd {U:Upd}:∀ {us:List Upd} {i:Nat} {D D':Nat->Bool} {s:St},us[i]?=some U->D i=false->(∀ j,D' j=(D j||AJ j i)) ->
  (∀ (j:Nat) (U':Upd),us[j]?=some U'->i<j->D j=true->∀ q,q∈U.map (·.1)->q∉U'.map (·.1))->cU D' us s=ac U (cU D us s)
 |[],i,_,_,_,h,_,_,_=>by simp at h
 |V::us,0,D,D',s,h,hD,hD',H=>by
  simp at h;subst h;simp only[cU];have h0:D' 0=true:=by rw[hD' 0];simp
  rw[h0,hD];simp only[cond_true,cond_false];have e:cU (λj=>D' (j+1)) us (ac V s)=cU (λj=>D (j+1)) us (ac V s):=lw (λj _=>by rw[hD' (j+1)];simp[AJ]);rw[e];exact mu (λj U' h1 h2=>H (j+1) U' (by simpa using h1) (by omega) h2)
 |V::us,i+1,D,D',s,h,hD,hD',H=>by
  simp only[cU];have h0:D' 0=D 0:=by rw[hD' 0];simp[AJ]
  rw[h0];exact nd (i:=i) (by simpa using h) hD (λj=>by rw[hD' (j+1)];simp[AJ]) (λj U' h1 h2 h3=>H (j+1) U' (by simpa using h1) (by omega) h3)
theorem pH:∀ {os:List Oper} {us:List Upd} {ts:List cC} {s s':St},Run Γ T all s os us ts s'->∀ (i:Nat) (o:Oper),os[i]?=some o ->
  ∃ U t,us[i]?=some U/\ts[i]?=some t/\iM Γ T all o (cU (λj=>decide (j<i)) us s) U t
 |[],_,_,_,_,_,i,o,h=>by simp at h
 |o'::os,[],_,_,_,h,_,_,_=>h.elim
 |o'::os,_::_,[],_,_,h,_,_,_=>h.elim
 |o'::os,U::us,t::ts,s,s',h,0,o,hi=>by
  simp at hi;subst hi;exact⟨U,t,rfl,rfl,by rw[mt (λj=>by simp)];exact h.1⟩
 |o'::os,U::us,t::ts,s,s',h,i+1,o,hi=>by
  obtain⟨U',t',h1,h2,h3⟩:=pH h.2 i o (by simpa using hi);refine⟨U',t',by simpa using h1,by simpa using h2,?_⟩;simp only[cU];have e:(λj=>decide (j+1<i+1))=λj=>decide (j<i):=by funext j;simp
  rw[e];simpa using h3
theorem tM:∀ {os:List Oper} {us:List Upd} {ts:List cC} {s s':St},Run Γ T all s os us ts s'->us.length=os.length/\ts.length=os.length/\s'=cU (λ_=>true) us s
 |[],[],[],_,_,h=>⟨rfl,rfl,h⟩
 |[],_::_,_,_,_,h=>h.elim
 |[],[],_::_,_,_,h=>h.elim
 |_::_,[],_,_,_,h=>h.elim
 |_::_,_::_,[],_,_,h=>h.elim
 |o::os,U::us,t::ts,s,s',h=>by
  obtain⟨h1,h2,h3⟩:=tM h.2;exact⟨by simp[h1],by simp[h2],by simpa[cU]using h3⟩
theorem pI {q:Nat}:∀ {os:List Oper} {us:List Upd} {ts:List cC} {sT s':St} {D:Nat->Bool} {F:Nat->Bool} {s sF:St} {B:Prop},Run Γ T all sT os us ts s'->(∀ (j:Nat) (t:cC),ts[j]?=some t->F j=decide (q∈t.wr)) ->
  bI (s q)=bI (sF q)->(B->bI (sF q)=bI (sT q)) ->
  (∀ (j:Nat) (t:cC) (U:Upd),ts[j]?=some t->us[j]?=some U->D j=true->q∉t.wr->q∈U.map (·.1)->B/\∀ (k:Nat) (t':cC),k<j->ts[k]?=some t'->q∈t'.wr->D k=true) ->
  bI (cU D us s q)=bI (cU (λj=>D j&&F j) us sF q)
 |[],[],[],_,_,_,_,_,_,_,_,_,h1,_,_=>h1
 |[],_::_,_,_,_,_,_,_,_,_,h,_,_,_,_=>h.elim
 |[],[],_::_,_,_,_,_,_,_,_,h,_,_,_,_=>h.elim
 |_::_,[],_,_,_,_,_,_,_,_,h,_,_,_,_=>h.elim
 |_::_,_::_,[],_,_,_,_,_,_,_,h,_,_,_,_=>h.elim
 |o::os,U::us,t::ts,sT,s',D,F,s,sF,B,h,hF,h1,h2,hcl=>by
  obtain⟨⟨⟨k1,k2,k3⟩,_⟩,hrun⟩:=h;have hF0:=hF 0 t rfl;simp only[cU];refine pI (F:=λj=>F (j+1)) (B:=B/\(q∈t.wr->D 0=true)) hrun (λj t' ht=>hF (j+1) t' (by simpa using ht)) ?_ ?_ ?_
  ·by_cases hq:q∈U.map (·.1)
   ·by_cases hw:q∈t.wr
    ·rw[hF0,decide_eq_true hw,A9];cases D 0 with
     |true=>simp only[cond_true];rw[iw s sF hq]
     |false=>exact h1
    ·rw[hF0,decide_eq_false hw,A2];simp only[cond_false];cases hD:D 0 with
     |true =>
      simp only[cond_true];rw[iw s sT hq,k3 q hq hw];exact (h2 (hcl 0 t U rfl rfl hD hw hq).1).symm
     |false=>exact h1
   ·have e:∀ (b:Bool) (x:St),(bif b then ac U x else x) q=x q:=by intro b x;cases b <;> simp[d8 _ hq]
    rw[e,e];exact h1
  ·rintro⟨hB,hD⟩;by_cases hq:q∈U.map (·.1)
   ·by_cases hw:q∈t.wr
    ·rw[hF0,decide_eq_true hw,A9,hD hw];simp only[cond_true];rw[iw sF sT hq]
    ·rw[hF0,decide_eq_false hw,A2];simp only[cond_false];rw[k3 q hq hw];exact h2 hB
   ·have e:∀ (b:Bool) (x:St),(bif b then ac U x else x) q=x q:=by intro b x;cases b <;> simp[d8 _ hq]
    rw[e,d8 _ hq];exact h2 hB
  ·intro j t' U' ht hU hD hw hq;obtain⟨g1,g2⟩:=hcl (j+1) t' U' (by simpa using ht) (by simpa using hU) hD hw hq;exact⟨⟨g1,λhw0=>g2 0 t (by omega) rfl hw0⟩,λk t2 hk ht2 hw2=>g2 (k+1) t2 (by omega) (by simpa using ht2) hw2⟩
theorem qs {f:Nat->Nat}{i:Nat}:∀ (l:List Edge) (s:Nat),(l.foldl (λs e=>bif Region.binds .any e then s ||| 2 ^ e.on ||| f e.on else s) s).testBit i=true ->
  s.testBit i=true\/∃ e∈l,Region.binds .any e=true/\(i=e.on\/(f e.on).testBit i=true)
 |[],s,h=>.inl h
 |e::l,s,h=>by
  simp only[Bd]at h;rcases qs l _ h with h|⟨e',h1,h2⟩
  ·cases hb:Region.binds .any e with
   |false=>rw[hb]at h;exact .inl h
   |true =>
    rw[hb]at h;simp only[cond_true,Nat.testBit_or,Ay]at h;rcases h with (h|h)|h
    ·exact .inl h
    ·refine .inr ⟨e,AG ..,hb,.inl ?_⟩;rw[Nat.testBit_two_pow]at h;exact (of_decide_eq_true h).symm
    ·exact .inr ⟨e,AG ..,hb,.inr h⟩
  ·exact .inr ⟨e',AF _ h1,h2⟩
theorem sq:∀ (os:List Oper) (acc:List Nat),(∀ j,j<acc.length->(iN os acc).getD j 0=acc.getD j 0) /\
  ∀ (k:Nat) (o:Oper),os[k]?=some o->∃ acc':List Nat,acc'.length=acc.length+k/\(∀ j,j<acc'.length->acc'.getD j 0=(iN os acc).getD j 0) /\
   (iN os acc).getD (acc.length+k) 0=o.after.toList.foldl (λs e=>bif Region.binds .any e then s ||| 2 ^ e.on ||| acc'.getD e.on 0 else s) 0
 |[],acc=>⟨λ_ _=>rfl,λk o h=>by simp at h⟩
 |o::os,acc=>by
  obtain⟨h1,h2⟩:=sq os (acc++[o.after.toList.foldl (λs e=>bif Region.binds .any e then s ||| 2 ^ e.on ||| acc.getD e.on 0 else s) 0]);have hpre:∀ j,j<acc.length->(iN (o::os) acc).getD j 0=acc.getD j 0:=by
   intro j hj;simp only[iN];rw[h1 j (by simp;omega)];simp[AP,Ab hj]
  refine⟨hpre,λk o' h=>?_⟩;cases k with
  |zero =>
   simp at h;subst h;refine⟨acc,rfl,λj hj=>(hpre j hj).symm,?_⟩;simp only[iN];rw[Nat.add_zero,h1 acc.length (by simp)];simp[AP]
  |succ k =>
   obtain⟨acc',h3,h4,h5⟩:=h2 k o' (by simpa using h);refine⟨acc',by simp at h3;omega,λj hj=>h4 j hj,?_⟩;simp only[iN];have e:acc.length+(k+1)=(acc++[o.after.toList.foldl (λs e=>bif Region.binds .any e then s ||| 2 ^ e.on ||| acc.getD e.on 0 else s) 0]).length+k:=by simp;omega
   rw[e];exact h5
theorem iF {ops:Array Oper}{D:Nat->Prop}(hcl:∀ (j:Nat) (o:Oper),ops[j]?=some o->D j->∀ e∈o.after.toList,Region.binds .any e=true->D e.on) :
  ∀ (n j:Nat),j<n->∀ (o:Oper),ops[j]?=some o->(∀ e∈o.after.toList,Region.binds .any e=true->D e.on)->∀ i,((iN ops.toList []).getD j 0).testBit i=true->D i
 |0,_,h,_,_,_,_,_=>by omega
 |n+1,j,hj,o,ho,he,i,hi=>by
  obtain⟨acc',h1,h2,h3⟩:=(sq ops.toList []).2 j o (by simpa using ho);simp only[List.length_nil,Ar]at h1 h3;rw[h3]at hi;rcases qs (f:=λk=>acc'.getD k 0) _ _ hi with h|⟨e,h4,h5,h6⟩
  ·simp at h
  ·rcases h6 with rfl|h6
   ·exact he e h4 h5
   ·have hlt:e.on<acc'.length:=by
     apply Ac;intro hn;have:acc'.getD e.on 0=0:=by
      rw[AP,BF (by omega)];rfl
     rw[this]at h6;simp at h6
    rw[h2 _ hlt]at h6;have hD:=he e h4 h5;have hlt2:e.on<ops.size:=by
     have:=(A3.1 ho).1;omega
    exact iF hcl n e.on (by omega) ops[e.on] (AM hlt2) (hcl e.on _ (AM hlt2) hD) i h6
theorem fp {a b:List Nat}(h:kR a b=false){q:Nat}(ha:q∈a):q∉b:=by
 intro hb;unfold kR at h;rw[A7]at h;have:=h q ha;simp only[Ax,not_exists,not_and]at this;exact this q hb (by simp)
theorem kn {before:List Nat}{ts:List cC}(h:nX before ts=true){i j:Nat}(hij:i<j){x y:cC}(hx:ts[i]?=some x)(hy:ts[j]?=some y):(before.getD j 0).testBit i=true\/x.apart y=true:=by
 unfold nX at h;rw[AX]at h;have hj:=(AK.1 hy).1;have h1:=h j (by simpa using hj);rw[AX]at h1;have h2:=h1 i (by simpa using hij);simp only[hx,hy,Ay]at h2;exact h2
theorem o6 {p p':Nat->Bool}{i:Nat}(hp:p i=true)(hp':p' i=false)(h:∀ j,j≠i->p' j=p j):∀ (l:List Nat),l.Nodup->i∈l->l.countP p'+1=l.countP p
 |[],_,hi=>by simp at hi
 |x::l,hn,hi=>by
  rw[Ai]at hn;by_cases hx:x=i
  ·subst hx;have e:l.countP p'=l.countP p:=by
    apply List.countP_congr;intro y hy;rw[h y (λe=>hn.1 (e ▸ hy))]
   simp[hp,hp',e]
  ·have ih:=o6 hp hp' h l hn.2 ((AO.1 hi).resolve_left (λe=>hx e.symm));simp only[BZ,h x hx];omega
theorem zy (hV:ax V)(hT:TOk P T)(hΓ:∀ c∈Γ,af P c){ops:Array Oper}(hok:∀ (i:Nat) (o:Oper),ops[i]?=some o->bL V o)
  (hguard:∀ (i:Nat) (o:Oper),ops[i]?=some o->∀ j want,o.guard=some (j,want)->∀ s,(ops[j]?).bind (·.dst)=some s->s<V.nt) {Q:Exit->Act->World->Prop}
  {us:List Upd} {ts:List cC} {s0 s1:St} (hrun:Run Γ T ops s0 ops.toList us ts s1) (htext:mz ops=true) (hun:nX (iN ops.toList []) ts=true) (hQ:∀ a w,Rel P V s1 a w->Q .normal a w) :
  ∀ (fuel:Nat) (listed:Array Bool) (a:Act) (w:World),listed.size=ops.size->(Bf ops.size).countP (λi=>!listed.getD i true)=fuel ->
   (∀ (j:Nat) (o:Oper),ops[j]?=some o->listed.getD j false=true->∀ e∈o.after.toList,Region.binds .any e=true->listed.getD e.on false=true) ->
   Rel P V (cU (λj=>listed.getD j false) us s0) a w->wpAny P .any ops Q fuel listed a w:=by
 obtain⟨hul,htl,hend⟩:=tM hrun;have hsz:ops.toList.length=ops.size:=BM;have hready:∀ (listed:Array Bool),listed.size=ops.size->Region.ready .any ops listed=[]->∀ i,i<ops.size->listed.getD i false=true:=by
  intro listed hls hr i;induction i using Be with
  |ind i ih =>
   intro hi;cases hl:listed.getD i false with
   |true=>rfl
   |false =>
    exfalso;have hl2:listed.getD i true=false:=by
     rw[AN,AM (by omega)]at hl ⊢;exact hl
    have ho:ops[i]?=some ops[i]:=AM hi;have hmem:i∈Region.ready .any ops listed:=by
     unfold Region.ready;rw[At];refine⟨by simpa using hi,?_⟩;rw[hl2,ho];simp only[Bg,BQ,Aa,Ba];rw[Av];intro e he;cases hbd:Region.binds .any e with
     |false=>rfl
     |true =>
      simp only[Bool.not_true,Bool.false_or];have hlt:e.on<i:=by
       unfold mz at htext;rw[AX]at htext;have:=htext i (by simpa using hi);simp only[ho]at this;rw[AX]at this;have:=this e (by simpa using he);simpa[hbd]using this
      exact ih e.on hlt (by omega)
    rw[hr]at hmem;simp at hmem
 have hfin:∀ (listed:Array Bool) (a:Act) (w:World),listed.size=ops.size->Rel P V (cU (λj=>listed.getD j false) us s0) a w->Region.ready .any ops listed=[]->Q .normal a w:=by
  intro listed a w hls hr hrd;refine hQ a w ?_;rw[hend];have:cU (λ_=>true) us s0=cU (λj=>listed.getD j false) us s0:=lw (λj hj=>(hready listed hls hrd j (by omega)).symm);rw[this];exact hr
 intro fuel;induction fuel with
 |zero =>
  intro listed a w hls hcount hcl hr;have hrd:Region.ready .any ops listed=[]:=by
   unfold Region.ready;rw[List.filter_eq_nil_iff];intro i hi hc;rw[BN]at hcount;have:=hcount i hi;simp only[AC]at hc;exact this hc.1
  exact⟨hrd,hfin listed a w hls hr hrd⟩
 |succ fuel ih =>
  intro listed a w hls hcount hcl hr;refine⟨hfin listed a w hls hr,λi hi=>?_⟩;unfold Region.ready at hi;rw[At]at hi;obtain⟨hin,hi2⟩:=hi;have hin:i<ops.size:=by simpa using hin
  have ho:ops[i]?=some ops[i]:=AM hin;rw[ho]at hi2;simp only[AC,Al,Aa,Ba]at hi2;obtain⟨hunl,hedges⟩:=hi2;rw[Av]at hedges;have hunl2:listed.getD i false=false:=by
   rw[AN,AM (by omega)]at hunl ⊢;exact hunl
  have hed:∀ e∈(ops[i]).after.toList,Region.binds .any e=true->listed.getD e.on false=true:=by
   intro e he hb;have:=hedges e (by simpa using he);simpa[hb]using this
  obtain⟨U,t,hU,ht,hdone⟩:=pH hrun i ops[i] (by simp);have hcl':∀ (j:Nat) (o:Oper),ops[j]?=some o->(λk=>listed.getD k false=true) j->∀ e∈o.after.toList,Region.binds .any e=true->(λk=>listed.getD k false=true) e.on:=hcl;obtain⟨hw1,_,_⟩:=hdone.1;have hother:∀ (j:Nat) (U':Upd),us[j]?=some U'->∃ t',ts[j]?=some t'/\(∀ q∈U'.map (·.1),q∈t'.wr\/q∈t'.cw)/\∀ q∈t'.wr,q∈U'.map (·.1):=by
   intro j U' hj;have hjl:j<ops.size:=by
    have:=(AK.1 hj).1;omega
   obtain⟨U2,t2,h1,h2,h3⟩:=pH hrun j ops[j] (by simp[hjl]);rw[hj]at h1;cases h1;exact⟨t2,h2,h3.1.1,h3.1.2.1⟩
  have hap:∀ (j:Nat) (U':Upd),us[j]?=some U'->j≠i->listed.getD j false≠decide (j<i)->∃ t',ts[j]?=some t'/\(∀ q∈U'.map (·.1),q∈t'.wr\/q∈t'.cw)/\(t'.apart t=true\/t.apart t'=true):=by
   intro j U' hj hne hdiff;obtain⟨t',h1,h2,_⟩:=hother j U' hj;refine⟨t',h1,h2,?_⟩;rcases Nat.lt_or_gt_of_ne hne with hlt|hgt
   ·have hl:listed.getD j false=false:=by
     cases hl:listed.getD j false with
     |false=>rfl
     |true=>rw[hl]at hdiff;simp[hlt]at hdiff
    rcases kn hun hlt h1 ht with h3|h3
    ·have:=iF hcl' (i+1) i (Aq _) ops[i] ho hed j h3;rw[hl]at this;cases this
    ·exact .inl h3
   ·have hl:listed.getD j false=true:=by
     cases hl:listed.getD j false with
     |true=>rfl
     |false=>rw[hl]at hdiff;simp at hdiff;omega
    have hjl:j<ops.size:=by
     have:=(AK.1 hj).1;omega
    have hoj:ops[j]?=some ops[j]:=AM hjl;rcases kn hun hgt ht h1 with h3|h3
    ·have:=iF hcl' (j+1) j (Aq _) ops[j] hoj (hcl j _ hoj hl) i h3;rw[hunl2]at this;cases this
    ·exact .inr h3
  have hdis:∀ (x y:cC),x.apart y=true->(∀ q,q∈x.wr\/q∈x.cw->(q∉y.wr/\q∉y.cw)/\q∉y.rd)/\(∀ q,q∈y.wr\/q∈y.cw->(q∉x.wr/\q∉x.cw)/\q∉x.rd)/\(∀ q∈x.wr,q∉y.hd)/\∀ q∈y.wr,q∉x.hd:=by
   intro x y h;unfold cC.apart at h;simp only[AC,Al]at h;obtain⟨⟨⟨⟨h1,h2⟩,h3⟩,h4⟩,h5⟩:=h;refine⟨λq hq=>?_,λq hq=>?_,λq hq=>fp h4 hq,λq hq hx=>fp h5 hx hq⟩
   ·have hq:=AB.2 hq;have:=fp h1 hq;simp only[AB,not_or]at this;exact⟨this,fp h2 hq⟩
   ·have hq:=AB.2 hq;have:q∉x.wr++x.cw:=λhx=>fp h1 hx hq
    simp only[AB,not_or]at this;exact⟨this,λhx=>fp h3 hx hq⟩
  have hnot:∀ (j:Nat) (U':Upd),us[j]?=some U'->j≠i->listed.getD j false≠decide (j<i)->∀ q∈U'.map (·.1),(q∉t.wr/\q∉t.cw)/\q∉t.rd:=by
   intro j U' hj hne hdiff q hq;obtain⟨t',_,h1,h2⟩:=hap j U' hj hne hdiff;rcases h2 with h2|h2
   ·exact (hdis _ _ h2).1 q (h1 q hq)
   ·exact (hdis _ _ h2).2.1 q (h1 q hq)
  have hnoth:∀ (j:Nat) (t':cC),ts[j]?=some t'->j≠i->listed.getD j false≠decide (j<i)->∀ q∈t'.wr,q∉t.hd:=by
   intro j t' hj hne hdiff q hq;have hjl:j<us.length:=by
    have:=(AK.1 hj).1;omega
   obtain⟨t2,h0,_,h2⟩:=hap j us[j] (AR hjl) hne hdiff;rw[hj]at h0;cases h0;rcases h2 with h2|h2
   ·exact (hdis _ _ h2).2.2.1 q hq
   ·exact (hdis _ _ h2).2.2.2 q hq
  have hres:lv Γ T ops ops[i] (cU (λj=>listed.getD j false) us s0) U:=by
   refine hdone.frame (λq hq=>?_) (λq hq=>?_)
   ·refine lx rfl λj U' hj hqj=>?_
    by_cases hji:j=i
    ·subst hji;rw[hunl2];simp
    ·apply Ac;intro hdiff;have:=hnot j U' hj hji hdiff q hqj;rcases hq with hq|hq
     ·exact this.2 hq
     ·exact this.1.1 hq
   ·have hFF:∀ (j:Nat) (t':cC),ts[j]?=some t'->(λj=>match ts[j]? with|some t'=>decide (q∈t'.wr)|none=>false) j=decide (q∈t'.wr):=λj t' h=>by simp only[h]
    have e1:=pI (q:=q) (D:=λj=>listed.getD j false) (F:=λj=>match ts[j]? with|some t'=>decide (q∈t'.wr)|none=>false) (s:=s0) (sF:=s0) (B:=True) hrun hFF rfl (λ_=>rfl) (λj t' U' hj hU hD hw hqk=>by
     refine⟨trivial,λk t2 hk ht2 hw2=>?_⟩;obtain⟨t3,h3,h4,_⟩:=hother j U' hU;rw[hj]at h3;cases h3;have hcw:=(h4 q hqk).resolve_left hw;have hjl:j<ops.size:=by
      have:=(AK.1 hU).1;omega
     have hoj:ops[j]?=some ops[j]:=AM hjl;rcases kn hun hk ht2 hj with h5|h5
     ·exact iF hcl' (j+1) j (Aq _) ops[j] hoj (hcl j _ hoj hD) k h5
     ·exact absurd hcw ((hdis _ _ h5).1 q (.inl hw2)).1.2)
    have e2:=pI (q:=q) (D:=λj=>decide (j<i)) (F:=λj=>match ts[j]? with|some t'=>decide (q∈t'.wr)|none=>false) (s:=s0) (sF:=s0) (B:=True) hrun hFF rfl (λ_=>rfl) (λj t' U' hj hU hD hw hqk=>by
     refine⟨trivial,λk t2 hk ht2 hw2=>?_⟩;have:=of_decide_eq_true hD;exact decide_eq_true (by omega))
    rw[e1,e2];congr 1;refine lx rfl λj U' hj hqj=>?_
    obtain⟨t',h1,h2,_⟩:=hother j U' hj;simp only[h1];by_cases hw:q∈t'.wr
    ·rw[decide_eq_true hw,A9,A9];by_cases hji:j=i
     ·subst hji;rw[hunl2];simp
     ·apply Ac;intro hdiff;exact hnoth j t' h1 hji hdiff q hw hq
    ·rw[decide_eq_false hw,A2,A2]
  refine uR hV hT hΓ ho (hok i _ ho) (hguard i _ ho) hres hr λa' w' hr'=>?_
  have hset:∀ (b:Bool) (j:Nat),(listed.setIfInBounds i true).getD j b=if j=i then true else listed.getD j b:=by
   intro b j;simp only[AN,Array.getElem?_setIfInBounds];by_cases hji:j=i
   ·subst hji;simp[hls,hin]
   ·rw[if_neg (λe=>hji e.symm),if_neg hji]
  refine ih _ a' w' (by simpa using hls) ?_ ?_ ?_
  ·have:=o6 (p:=λj=>!listed.getD j true) (p':=λj=>!(listed.setIfInBounds i true).getD j true) (i:=i) (by simp[hunl]) (by simp[hset]) (λj hj=>by simp[hset,hj]) (Bf ops.size) List.nodup_range (by simpa using hin);omega
  ·intro j o' hj hlj e he hb;rw[hset]at hlj ⊢;by_cases hei:e.on=i
   ·rw[if_pos hei]
   ·rw[if_neg hei];by_cases hji:j=i
    ·subst hji;rw[ho]at hj;cases hj;exact hed e he hb
    ·rw[if_neg hji]at hlj;exact hcl j o' hj hlj e he hb
  ·have hins:=nd (U:=U) (us:=us) (i:=i) (D:=λj=>listed.getD j false) (D':=λj=>(listed.setIfInBounds i true).getD j false) (s:=s0) hU hunl2 (λj=>by
     simp only[hset];by_cases hji:j=i
     ·subst hji;simp
     ·have:AJ j i=false:=by
       cases hb:AJ j i with
       |false=>rfl
       |true=>exact absurd (AH hb) hji
      simp[hji,this])
    (λj U' hj hij hD q hq hq'=>by
     have:=hnot j U' hj (by omega) (by rw[hD];simp;omega) q hq';exact (hw1 q hq).elim this.1.1 this.1.2)
   rw[hins];exact hr'
theorem zz (hV:ax V)(hT:TOk P T)(hΓ:∀ c∈Γ,af P c)(hmix:P.follows .mixedOrders=true){id:Nat}{ops:Array Oper}{draw:Bool}(hok:∀ (i:Nat) (o:Oper),ops[i]?=some o->bL V o)
  (hguard:∀ (i:Nat) (o:Oper),ops[i]?=some o->∀ j want,o.guard=some (j,want)->∀ s,(ops[j]?).bind (·.dst)=some s->s<V.nt) {Q:Exit->Act->World->Prop} {κ:St->Option R} {r:R}
  (h:regK Γ T ops draw st κ=some r) (hκ:∀ s1,κ s1=some r->∀ a w,Rel P V s1 a w->Q .normal a w) {a:Act} {w:World} (hr:Rel P V st a w):(Code.region id ops draw).wp P Q a w:=by
 unfold regK at h;cases draw with
 |true =>
  simp only[cond_true]at h;obtain⟨us,ts,s1,hrun,h2⟩:=nR _ _ _ _ _ h;simp only[Ag]at h2;cases hb:mz ops&&nX (iN ops.toList []) ts with
  |false=>simp[hb]at h2
  |true =>
   simp only[hb,cond_true]at h2;simp only[AC]at hb;refine wp_region_any hmix ?_;have hD:∀ j,(Aj ops.size false).getD j false=false:=by
    intro j;simp only[AN,BA];split <;> rfl
   refine zy hV hT hΓ hok hguard hrun hb.1 hb.2 (hκ s1 h2) ops.size (Aj ops.size false) a _ (by simp) ?_ ?_ ?_
   ·rw[List.countP_eq_length.2]
    ·simp
    ·intro i hi;have hi:i<ops.size:=by simpa using hi
     simp[AN,BA,hi]
   ·intro j o' _ hl;rw[hD]at hl;cases hl
   ·rw[mt (λj=>hD j)];obtain⟨W,hr⟩:=hr;exact⟨W,hr.world hV (w':={ w with drawn:=w.drawn+1 }) (BI _) rfl rfl rfl (λ_ _=>rfl)⟩
 |false =>
  simp only[cond_false]at h;obtain⟨us,ts,s1,hrun,h2⟩:=nR _ _ _ _ _ h;refine wp_region ?_;have:=tL hV hT hΓ hok hguard ops.toList 0 st us ts s1 (by simp) hrun (hκ s1 h2) a w hr;rw[BM,<- List.range_eq_range']at this;exact this
end
section
variable {P:Program} {V:Env} {Γ:List Ctr} {T:TypeId->TI} {st st':St} {o:Oper} {R:Type} {all:Array Oper}
theorem j6 (live:List Nat):∀ (cs:List Coe) (ls:List Leaf),(cN st live cs ls).length=ls.length
 |[],[]=>rfl
 |_::_,[]=>rfl
 |[],_::ls=>by simp[cN,j6 live [] ls]
 |_::cs,_::ls=>by simp[cN,j6 live cs ls]
theorem nS (live:List Nat):∀ (cs:List Coe) (ls:List Leaf) (j:Nat) (l:Leaf),(cN st live cs ls)[j]?=some l->∃ l0,ls[j]?=some l0/\(l=.dead\/∃ c,l=bA st live c l0)
 |[],[],j,l,h=>by simp[cN]at h
 |_::_,[],j,l,h=>by simp[cN]at h
 |[],l0::ls,0,l,h=>by simp[cN]at h;exact⟨l0,rfl,.inl h.symm⟩
 |c::cs,l0::ls,0,l,h=>by simp[cN]at h;exact⟨l0,rfl,.inr ⟨c,h.symm⟩⟩
 |[],l0::ls,j+1,l,h=>by
  simp only[cN,BC]at h;obtain⟨l1,h1,h2⟩:=nS live [] ls j l h;exact⟨l1,by simpa using h1,h2⟩
 |c::cs,l0::ls,j+1,l,h=>by
  simp only[cN,BC]at h;obtain⟨l1,h1,h2⟩:=nS live cs ls j l h;exact⟨l1,by simpa using h1,h2⟩
theorem yH (live:List (Nat×List Coe))(q:Nat):kS live st q=bS.none/\q∉live.map (·.1)\/∃ cs,kS live st q=⟨0,(st q).sh,cN st (live.map (·.1)) cs (st q).ls⟩/\q∈live.map (·.1):=by
 have key:∀ (keys:List Nat) (l:List (Nat×List Coe)),(az (l.map λr=>(r.1,⟨0,(st r.1).sh,cN st keys r.2 (st r.1).ls⟩)) q=bS.none/\q∉l.map (·.1)) \/
   ∃ cs,az (l.map λr=>(r.1,⟨0,(st r.1).sh,cN st keys r.2 (st r.1).ls⟩)) q=⟨0,(st q).sh,cN st keys cs (st q).ls⟩/\q∈l.map (·.1):=by
  intro keys l;induction l with
  |nil=>exact .inl ⟨rfl,by simp⟩
  |cons x l ih =>
   obtain⟨r,cs⟩:=x;by_cases h:q=r
   ·subst h;exact .inr ⟨cs,by simp[az,ac],by simp⟩
   ·have hb:AJ q r=false:=by
     cases hb:AJ q r with
     |false=>rfl
     |true=>exact absurd (AH hb) h
    rcases ih with ⟨h1,h2⟩|⟨cs',h1,h2⟩
    ·refine .inl ⟨?_,by simpa[h]using h2⟩;rw[<- h1];simp[az,ac,hb]
    ·refine .inr ⟨cs',?_,by simp only[AY,AO];exact .inr h2⟩;rw[<- h1];simp[az,ac,hb]
 exact key (live.map (·.1)) live
theorem wj {keys:List Nat}{c:Coe}{l0:Leaf}(h:an (bA st keys c l0)):an l0\/l0=.nil:=by
 cases l0 with
 |own p hh E e xs=>exact .inl trivial
 |nil=>exact .inr rfl
 |_ =>
  exfalso;revert h;cases c <;> simp only[bA] <;> first
   |exact id
   |(cases (!_||_:Bool) <;> first | exact id | (split <;> exact id))
   |(cases (_&&_:Bool) <;> exact id)
   |(cases (List.any _ _:Bool) <;> exact id)
   |(cases (List.all _ _:Bool) <;> exact id)
theorem gV.nw {W W':Wit}{w:World}{c:Bool×Bool×(a:Ty)×a.den}{u:Value}(hnw:∀ k,W.nw k->W'.nw k)(h:gV V W w c u):gV V W' w c u:=by
 have hgd:∀ (p:Bool) k,gd V W p k->gd V W' p k:=λp k hk=>hk.imp (hnw k) id
 unfold gV at h ⊢;split at h
 ·rename_i hb;rw[if_pos hb];obtain⟨b,ob,g,o',c',hv,hb1,hcell,hg,hr,hc⟩:=h;exact⟨b,ob,g,o',c',hv,hb1.imp (hnw b) id,hcell,hg.imp (hnw g) id,Rd.mono (hgd _) hr,hc⟩
 ·rename_i hb;rw[if_neg hb];obtain⟨g,o',c',hv,hg,hr,hc⟩:=h;exact⟨g,o',c',hv,hg.imp (hnw g) id,Rd.mono (hgd _) hr,hc⟩
theorem uS {W W':Wit}{w:World}{keys:List Nat}{bs bs':List Nat}{c:Coe}{l0:Leaf}{v:Value}(h:aK P V W st w bs l0 v)
  (hnw:∀ k,W.nw k->W'.nw k) (hβ:W'.β=W.β) (hcs:∀ q,keys.any (AJ q)=true->W'.cs q=W.cs q) (hlive:∀ b,keys.any (AJ b)=true->(st b).sh=.agg->(st' b).sh=.agg)
  (hown:an l0->bs'=bs) (hnil:l0=.nil->bs'=[]) (hfrz:an l0->¬ an (bA st keys c l0)->(∃ p E e,c=.ro p E e)->∀ k∈bs,W'.nw k) :
  aK P V W' st' w bs' (bA st keys c l0) v:=by
 have hgd:∀ (p q:Bool),(!q||p)=true->∀ k,gd V W q k->gd V W' p k:=by
  intro p q hpq k hk;rcases hk with hk|⟨h1,hk⟩
  ·exact .inl (hnw k hk)
  ·refine .inr ⟨?_,hk⟩;subst h1;simpa using hpq
 cases c with
 |kill=>simp only[bA];trivial
 |keep =>
  cases l0 with
  |int k n=>exact h
  |bool b=>exact h
  |str s=>exact h
  |nil=>exact h
  |hdr n=>exact h
  |fn As B φ=>exact h
  |clr f caps =>
   obtain⟨us,h1,h2,h3⟩:=h;exact⟨us,h1,h2,λi c u g1 g2=>(h3 i c u g1 g2).nw hnw⟩
  |al r j n =>
   simp only[bA];cases hb:keys.any (AJ r)&&AJ (st r).ver n with
   |false=>trivial
   |true =>
    simp only[AC]at hb;exact⟨Bb _,λ_=>by rw[hcs r hb.1];exact h.2 (AH hb.2)⟩
  |bp b off =>
   simp only[bA];cases hb:keys.any (AJ b) with
   |false=>trivial
   |true =>
    obtain⟨h1,h2,h3⟩:=h;exact⟨h1,hlive b hb h2,by rw[hβ];exact h3⟩
  |clo f caps =>
   simp only[bA];cases hb:caps.all (λb=>keys.any (AJ b)) with
   |false=>trivial
   |true =>
    obtain⟨h1,h2⟩:=h;rw[AX]at hb;exact⟨by rw[hβ];exact h1,λb hbc=>⟨(h2 b hbc).1,hlive b (hb b hbc) (h2 b hbc).2⟩⟩
  |_=>simp only[bA];trivial
 |own p E e =>
  cases l0 with
  |nil =>
   have hv:v=.slice none 0 0:=h;subst hv;rw[hnil rfl];exact OwH.nil w _ E e
  |own q hh E' e' xs =>
   cases hh with
   |some x=>simp only[bA];trivial
   |none =>
    simp only[bA];cases hb:(!q||p) with
    |false=>trivial
    |true =>
     rw[hown trivial];exact OwH.carry h (hgd p q hb) (λ_ _=>rfl) (λ_ _=>rfl)
  |_=>simp only[bA];trivial
 |ro p E e =>
  cases l0 with
  |nil =>
   have hv:v=.slice none 0 0:=h;subst hv;exact Rd.nil w _ false E e
  |ro q E' e' xs =>
   simp only[bA];cases hb:(!q||p) with
   |false=>trivial
   |true =>
    simp only[cond_true];split
    ·rename_i ys hc;exact Rd.castSh (m:=false) (m':=false) (E:=E) hc (Rd.mono (hgd p q hb) h)
    ·trivial
  |own q hh E' e' xs =>
   cases hh with
   |some x=>simp only[bA];trivial
   |none =>
    have hfz:=hfrz trivial (by
     simp only[bA];cases (!q||p) with
     |false=>exact id
     |true=>simp only[cond_true];split <;> exact id) ⟨p,E,e,rfl⟩
    simp only[bA];cases hb:(!q||p) with
    |false=>trivial
    |true =>
     simp only[cond_true];split
     ·rename_i ys hc;refine Rd.castSh (m:=false) (m':=false) (E:=E) (E':=E') hc (Rd.mono (λk hk=>?_) (OwH.rd (m:=false) (E':=E') h));rcases hk with hk|hk
      ·exact hgd p q hb k hk
      ·exact .inl (hfz k hk)
     ·trivial
  |_=>simp only[bA];trivial
 |rp p =>
  cases l0 with
  |rpp q a x =>
   simp only[bA];cases hb:(!q||p) with
   |false=>trivial
   |true =>
    obtain⟨b,ob,g,o',c,hv,hb1,hcell,hg,hr,hc⟩:=h;exact⟨b,ob,g,o',c,hv,hb1.imp (hnw b) id,hcell,hg.imp (hnw g) id,Rd.mono (hgd p q hb) hr,hc⟩
  |rp q a x off =>
   simp only[bA];cases hb:(!q||p) with
   |false=>trivial
   |true =>
    obtain⟨g,o',c,hv,hg,hr,hc⟩:=h;exact⟨g,o',c,hv,hg.imp (hnw g) id,Rd.mono (hgd p q hb) hr,hc⟩
  |_=>simp only[bA];trivial
open Classical in
theorem tN (_hV:ax V){a:Act}{w:World}(h:Rel P V st a w)(live:List (Nat×List Coe))(hfb:∀ x∈V.fixb,x.1∈live.map (·.1)):Rel P V (kS live st) a w:=by
 obtain⟨W,h⟩:=h;have hat:=yH (st:=st) live;have hlv:∀ b,Go.Proofs.YtmcbmojdeikcdaaGreatEv.live (kS live st) b->Go.Proofs.YtmcbmojdeikcdaaGreatEv.live st b:=by
  rintro b ⟨h1,h2⟩;rcases hat b with ⟨e,_⟩|⟨cs,e,_⟩
  ·rw[e]at h2;cases h2
  ·rw[e]at h2;exact⟨h1,h2⟩
 have hle:∀ (q j:Nat) (l:Leaf),(kS live st q).ls[j]?=some l->q∈live.map (·.1)/\∃ l0,(st q).ls[j]?=some l0/\(l=.dead\/∃ c,l=bA st (live.map (·.1)) c l0):=by
  intro q j l hl;rcases hat q with ⟨e,_⟩|⟨cs,e,hm⟩
  ·rw[e]at hl;simp[bS.none]at hl
  ·rw[e]at hl;exact⟨hm,nS _ _ _ _ _ hl⟩
 have hob:∀ (q j:Nat) (l:Leaf),(kS live st q).ls[j]?=some l->an l->∃ l0,(st q).ls[j]?=some l0/\(an l0\/l0=.nil):=by
  intro q j l hl ho;obtain⟨_,l0,h1,h2⟩:=hle q j l hl;rcases h2 with rfl|⟨c,rfl⟩
  ·exact ho.elim
  ·exact⟨l0,h1,wj ho⟩
 have hany:∀ b,(live.map (·.1)).any (AJ b)=true->b∈live.map (·.1):=λb hb=>by
  rw[Ax]at hb;obtain⟨x,hx,he⟩:=hb;rw[AH he];exact hx
 let bs':Nat->Nat->List Nat:=λq j=>if (∃ l0,(st q).ls[j]?=some l0/\an l0) then W.bs q j else []
 let nw':Nat->Prop:=λk=>W.nw k\/∃ q j l0 l,(st q).ls[j]?=some l0/\an l0/\(kS live st q).ls[j]?=some l/\¬ an l/\k∈W.bs q j
 have hbs1:∀ (q j k:Nat),k∈bs' q j->(∃ l0,(st q).ls[j]?=some l0/\an l0)/\k∈W.bs q j:=by
  intro q j k hk;by_cases hc:∃ l0,(st q).ls[j]?=some l0/\an l0
  ·simp only[bs',if_pos hc]at hk;exact⟨hc,hk⟩
  ·simp only[bs',if_neg hc]at hk;simp at hk
 refine⟨{ β:=W.β,cs:=λq=>if q∈live.map (·.1) then W.cs q else [],bs:=bs',nw:=nw' },?_⟩
 exact {
  nt:=h.nt,df:=h.df
  slots:=λt ht=>by
   rcases hat t with ⟨e,hm⟩|⟨cs,e,hm⟩
   ·rw[e];simp[hm,bS.none,dJ]
   ·rw[e];simp only[hm,if_true];exact h.slots t ht
  boxes:=λb hb=>by
   rcases hat b with ⟨e,hm⟩|⟨cs,e,hm⟩
   ·rw[e];exact .inl ⟨rfl,rfl⟩
   ·rw[e];rcases h.boxes b hb with ⟨h1,h2⟩|⟨h1,E,h2⟩
    ·exact .inl ⟨h1,by rw[h2];exact List.eq_nil_of_length_eq_zero (by rw[j6];rfl)⟩
    ·exact .inr ⟨h1,E,by simp only[hm,if_true];exact h2⟩
  len:=λq=>by
   rcases hat q with ⟨e,hm⟩|⟨cs,e,hm⟩
   ·rw[e];simp[hm,bS.none]
   ·rw[e];simp only[hm,if_true,j6];exact h.len q
  one:=λq u hu=>by
   by_cases hm:q∈live.map (·.1)
   ·simp only[hm,if_true]at hu;exact h.one q u hu
   ·simp only[hm,if_false]at hu;simp at hu
  leaf:=λq j l v hl hv=>by
   obtain⟨hm,l0,h1,h2⟩:=hle q j l hl;simp only[hm,if_true]at hv;have hlo:=h.leaf q j l0 v h1 hv;rcases h2 with rfl|⟨c,rfl⟩
   ·trivial
   ·refine uS (st:=st) (W:=W) (W':={ β:=W.β,cs:=λq=>if q∈live.map (·.1) then W.cs q else [],bs:=bs',nw:=nw' }) (keys:=live.map (·.1)) hlo (λk hk=>Or.inl hk) rfl (λq hq=>if_pos (hany q hq)) ?_ ?_ ?_ ?_
    ·intro b hb hag;have hbm:=hany b hb;rcases hat b with ⟨_,hm'⟩|⟨cs,e,_⟩
     ·exact absurd hbm hm'
     ·rw[e];exact hag
    ·intro ho;show bs' q j=_;simp only[bs',if_pos (⟨l0,h1,ho⟩:∃ l0,(st q).ls[j]?=some l0/\an l0)]
    ·intro e;show bs' q j=_;have hc:¬ ∃ l0,(st q).ls[j]?=some l0/\an l0:=by
      rintro⟨l1,h3,h4⟩;rw[h1,e]at h3;cases h3;exact h4.elim
     simp only[bs',if_neg hc]
    ·intro ho hn _ k hk;exact .inr ⟨q,j,l0,_,h1,ho,hl,hn,hk⟩
  ownb:=λq j l hl ho k hk=>by
   obtain⟨⟨l0,h1,h2⟩,h3⟩:=hbs1 q j k hk;obtain⟨q1,q2,q3⟩:=h.ownb q j l0 h1 h2 k h3;refine⟨?_,q2,λb hb=>q3 b (hlv b hb)⟩;rintro (hn|⟨q',j',l1,l2,h4,h5,h6,h7,h8⟩)
   ·exact q1 hn
   ·obtain⟨rfl,rfl⟩:=h.sep q j l0 q' j' l1 h1 h2 h4 h5 k h3 h8;rw[hl]at h6;cases h6;exact h7 ho
  sep:=λq j l q' j' l' _ _ _ _ k hk hk'=>by
   obtain⟨⟨l0,h1,h2⟩,h3⟩:=hbs1 q j k hk;obtain⟨⟨l0',h1',h2'⟩,h3'⟩:=hbs1 q' j' k hk';exact h.sep q j l0 q' j' l0' h1 h2 h1' h2' k h3 h3'
  box:=λb hb=>by
   obtain⟨q1,q2⟩:=h.box b (hlv b hb);refine⟨?_,q2⟩;rintro (hn|⟨q',j',l1,l2,h4,h5,h6,h7,h8⟩)
   ·exact q1 hn
   ·exact (h.ownb q' j' l1 h4 h5 _ h8).2.2 b (hlv b hb) rfl
  inj:=λb b' hb hb'=>h.inj b b' (hlv b hb) (hlv b' hb')
  nwlt:=λk hk=>by
   rcases hk with hn|⟨q',j',l1,l2,h4,h5,h6,h7,h8⟩
   ·exact h.nwlt k hn
   ·exact⟨h.own_lt h4 h5 k h8,(h.ownb q' j' l1 h4 h5 k h8).2.1⟩
  os:=h.os,tape:=h.tape,output:=h.output,size:=h.size,keep:=h.keep
  fixb:=λx hx=>by
   obtain⟨⟨h1,h2⟩,h3⟩:=h.fixb x hx;refine⟨⟨h1,?_⟩,h3⟩;rcases hat x.1 with ⟨_,hm⟩|⟨cs,e,_⟩
   ·exact absurd (hfb x hx) hm
   ·rw[e];exact h2
  fixt:=h.fixt }
def exOf:Ex->Exit
 |.normal=>.normal
 |.exit id=>.exit id
 |.ret=>.ret
theorem ly {nt:Nat}{fix:List Nat}(hnt:V.nt=nt)(hfix:∀ x∈V.fixt,x.1∈fix)(h:ku nt fix all o=true):bL V o:=by
 intro d hd;simp only[ku,hd,AC,Al,A7]at h;obtain⟨⟨h1,h2⟩,_⟩:=h;refine⟨by rw[hnt];simpa[Au]using h1,λx hx e=>?_⟩;exact h2 _ (hfix x hx) (by simp[e])
end
section
variable {P:Program} {V:Env} {Γ:List Ctr} {T:TypeId->TI} {R:Type}
open Classical in
theorem sr {Q:Exit->Act->World->Prop}{a:Act}{w:World}{c:Code}(J:Nat->Act->World->Prop)(h0:∃ n,J n a w)(hz:∀ a w,¬ J 0 a w)
  (round:∀ n a w,J (n+1) a w->c.wp P (Exit.then (J n) Q) a w):(Code.loop c).wp P Q a w:=by
 have least:∀ (a:Act) (w:World) (n:Nat),J n a w->∃ m,J m a w/\m<=n/\∀ k,J k a w->m<=k:=by
  intro a w n;induction n using Be with
  |ind n ih =>
   intro hn;by_cases h:∃ k,k<n/\J k a w
   ·obtain⟨k,hk,hJ⟩:=h;obtain⟨m,h1,h2,h3⟩:=ih k hk hJ;exact⟨m,h1,by omega,h3⟩
   ·refine⟨n,hn,BI _,λk hk=>?_⟩;apply Ac;intro hlt;exact h ⟨k,by omega,hk⟩
 let μ:Act->World->Nat:=λa w=>if h:∃ m,J m a w/\∀ k,J k a w->m<=k then h.choose else 0
 have hμ:∀ a w n,J n a w->J (μ a w) a w/\μ a w<=n:=by
  intro a w n hn;obtain⟨m,h1,_,h3⟩:=least a w n hn;have h:∃ m,J m a w/\∀ k,J k a w->m<=k:=⟨m,h1,h3⟩;have e:μ a w=h.choose:=by simp only[μ];rw[dif_pos h]
  rw[e];exact⟨h.choose_spec.1,h.choose_spec.2 n hn⟩
 refine wp_loop (λa w=>∃ n,J n a w) μ h0 λa w ⟨n,hn⟩=>?_
 obtain⟨h1,_⟩:=hμ a w n hn;cases hm:μ a w with
 |zero=>rw[hm]at h1;exact absurd h1 (hz a w)
 |succ m =>
  rw[hm]at h1;refine wp_mono (round m a w h1) λe a' w' he=>?_
  cases e with
  |normal =>
   have h2:J m a' w':=he;exact⟨⟨m,h2⟩,Nat.lt_succ_of_le (hμ a' w' m h2).2⟩
  |_=>exact he
theorem xq {st:St}{a:Act}{w:World}(hr:Rel P V st a w){t:Nat}(htB:t<GH){b:Bool}(h1:(st t).sh=.one)(h2:(st t).ls=[.bool b]):a.eval (.tmp t)=.bool b:=by
 obtain⟨W,hr⟩:=hr;have hslot:=hr.slots t htB;rw[h1]at hslot;have hslot:W.cs t=[a.tmps.getD t undef]:=hslot;have hv:=hr.leaf t 0 (.bool b) (a.tmps.getD t undef) (by rw[h2];rfl) (by rw[hslot];rfl);exact hv
theorem qT (hV:ax V)(hT:TOk P T)(hΓ:∀ c∈Γ,af P c)(hmix:P.follows .mixedOrders=true){fx:List Nat}(hfb:∀ x∈V.fixb,x.1∈fx){nt:Nat}{fix:List Nat}(hnt:V.nt=nt)(hfix:∀ x∈V.fixt,x.1∈fix)
  {L:List (Nat×List (Nat×List Coe))} {fuel:Nat}:∀ (c:Code),dr nt fix c=true->c8 L fx c=true->∀ (st:St) (κ:Ex->St->Option R) (r:R) (Q:Exit->Act->World->Prop),evK Γ T L fuel c st κ=some r ->
   (∀ ex s1,κ ex s1=some r->∀ a w,Rel P V s1 a w->Q (exOf ex) a w)->∀ a w,Rel P V st a w->c.wp P Q a w:=by
 intro c;induction c with
 |skip=>exact λ_ _ st κ r Q h hQ a w hr=>wp_skip (hQ .normal st h a w hr)
 |region id ops draw =>
  intro hc hlp st κ r Q h hQ a w hr;simp only[dr,AX]at hc;have hmem:∀ (i:Nat) (o:Oper),ops[i]?=some o->ku nt fix ops o=true:=λi o hi=>hc o (by simpa using BG hi)
  refine zz hV hT hΓ hmix (λi o hi=>ly hnt hfix (hmem i o hi)) (λi o hi j want hg s hs=>?_) h (λs1 h1 a w hr=>hQ .normal s1 h1 a w hr) hr;have:=hmem i o hi;simp only[ku,hg,hs,AC]at this;rw[hnt];simpa[Au]using this.2
 |seq x y ihx ihy =>
  intro hc hlp st κ r Q h hQ a w hr;simp only[dr,AC]at hc;simp only[c8,AC]at hlp;simp only[evK]at h;refine wp_seq (ihx hc.1 hlp.1 st _ r _ h (λex s1 h1 a w hr=>?_) a w hr);cases ex with
  |normal=>exact ihy hc.2 hlp.2 s1 κ r Q h1 hQ a w hr
  |exit id=>exact hQ (.exit id) s1 h1 a w hr
  |ret=>exact hQ .ret s1 h1 a w hr
 |cond t x y ihx ihy =>
  intro hc hlp st κ r Q h hQ a w hr;simp only[dr,AC]at hc;simp only[c8,AC]at hlp;simp only[evK]at h;unfold xy at h;split at h
  ·rename_i t;split at h
   ·rename_i b h1 h2;have hv:=xq hr (BS (by have:=hc.1.1;simp only[uV,Au]at this;rw[hnt];exact this) hV.nt) h1 h2;cases b with
    |true =>
     simp only[cond_true]at h;rw[nQ h1 h2]at h;exact wp_cond_true hv (ihx hc.1.2 hlp.1 st κ r Q h hQ a w hr)
    |false =>
     simp only[cond_false]at h;rw[nQ h1 h2]at h;exact wp_cond_false hv (ihy hc.2 hlp.2 st κ r Q h hQ a w hr)
   ·cases h
  ·rename_i b;cases b with
   |true=>exact wp_cond_true rfl (ihx hc.1.2 hlp.1 st κ r Q h hQ a w hr)
   |false=>exact wp_cond_false rfl (ihy hc.2 hlp.2 st κ r Q h hQ a w hr)
  ·cases h
 |block id c ih =>
  intro hc hlp st κ r Q h hQ a w hr;simp only[dr]at hc;simp only[c8]at hlp;simp only[evK]at h;refine wp_block (ih hc hlp st _ r _ h (λex s1 h1 a w hr=>?_) a w hr);cases ex with
  |normal=>exact hQ .normal s1 h1 a w hr
  |exit id' =>
   simp only[qY]at h1;show if id'=id then Q .normal a w else Q (.exit id') a w
   by_cases e:id'=id
   ·rw[if_pos e];subst e;simp only[Nat.beq_refl,cond_true]at h1;exact hQ .normal s1 h1 a w hr
   ·rw[if_neg e];have hb:AJ id' id=false:=by
     cases hb:AJ id' id with
     |false=>rfl
     |true=>exact absurd (AH hb) e
    rw[hb]at h1;exact hQ (.exit id') s1 h1 a w hr
  |ret=>exact hQ .ret s1 h1 a w hr
 |loop c ih =>
  intro hc hlp st κ r Q h hQ a w hr;simp only[dr]at hc;simp only[c8,AC,AX]at hlp;simp only[evK]at h;have hnorm:∀ x∈V.fixb,x.1∈(kt L (ei c)).map (·.1):=λx hx=>by
   obtain⟨r,hr,he⟩:=Ax.1 (hlp.1 x.1 (hfb x hx));exact AL.2 ⟨r,hr,AH he⟩
  refine sr (λn a w=>∃ st,bt (kt L (ei c)) (evK Γ T L fuel c) n st κ=some r/\Rel P V st a w) ⟨fuel,_,h,tN hV hr _ hnorm⟩ ?_ ?_
  ·rintro a w ⟨st,h1,_⟩;cases h1
  ·rintro n a w ⟨st,h1,hr⟩;simp only[bt]at h1;refine ih hc hlp.2 st _ r _ h1 (λex s1 h2 a w hr=>?_) a w hr;cases ex with
   |normal=>exact⟨_,h2,tN hV hr _ hnorm⟩
   |exit id=>exact hQ (.exit id) s1 h2 a w hr
   |ret=>exact hQ .ret s1 h2 a w hr
 |exit id=>exact λ_ _ st κ r Q h hQ a w hr=>wp_exit (hQ (.exit id) st h a w hr)
 |ret=>exact λ_ _ st κ r Q h hQ a w hr=>wp_ret (hQ .ret st h a w hr)
 |_=>intro _ _ st κ r Q h;simp[evK]at h
end
section
variable {P:Program} {Γ:List Ctr} {T:TypeId->TI} {R:Type} {w:World} {ro pr:Nat->Prop}
theorem ig {G:Nat->Prop}{p:Bool}:∀ {b:Ty} {h:Option Nat} {pos:Nat} {x:b.den} {cs:List Value} {bs:List Nat},Mx w G b h pos x cs bs->bs.Nodup ->
  ∃ bsd:Nat->List Nat,
   (∀ (V:Env) (W:Wit) (st:St),(∀ k,G k->gd V W p k)->∀ (j:Nat) (l:Leaf) (u:Value),h≠some (pos+j)->(ap p b x)[j]?=some l->cs[j]?=some u->aK P V W st w (bsd j) l u) /\
   (∀ (j:Nat) (l:Leaf),h≠some (pos+j)->(ap p b x)[j]?=some l->an l->∀ k∈bsd j,k∈bs) /\
   (∀ (j j':Nat) (l l':Leaf),h≠some (pos+j)->h≠some (pos+j')->(ap p b x)[j]?=some l->an l->(ap p b x)[j']?=some l'->an l'->∀ k,k∈bsd j->k∈bsd j'->j=j')
 |.int k,_,_,x,cs,bs,H,_=>by
  obtain⟨rfl,rfl⟩:=H;exact⟨λ_=>[],λV W st _ j l u _ h1 h2=>by cases j with|zero=>simp[ap]at h1 h2;subst h1;subst h2;rfl|succ j=>simp[ap]at h1,λj l _ h1 _ k hk=>by simp at hk,λj j' l l' _ _ _ _ _ _ k hk=>by simp at hk⟩
 |.bool,_,_,x,cs,bs,H,_=>by
  obtain⟨rfl,rfl⟩:=H;exact⟨λ_=>[],λV W st _ j l u _ h1 h2=>by cases j with|zero=>simp[ap]at h1 h2;subst h1;subst h2;rfl|succ j=>simp[ap]at h1,λj l _ h1 _ k hk=>by simp at hk,λj j' l l' _ _ _ _ _ _ k hk=>by simp at hk⟩
 |.str,_,_,x,cs,bs,H,_=>by
  obtain⟨rfl,rfl⟩:=H;exact⟨λ_=>[],λV W st _ j l u _ h1 h2=>by cases j with|zero=>simp[ap]at h1 h2;subst h1;subst h2;rfl|succ j=>simp[ap]at h1,λj l _ h1 _ k hk=>by simp at hk,λj j' l l' _ _ _ _ _ _ k hk=>by simp at hk⟩
 |.unit,_,_,x,cs,bs,H,_=>by
  obtain⟨rfl,rfl⟩:=H;exact⟨λ_=>[],λV W st _ j l u _ h1 h2=>by simp[ap]at h1,λj l _ h1 _ k hk=>by simp at hk,λj j' l l' _ _ _ _ _ _ k hk=>by simp at hk⟩
 |.hdr,_,_,x,cs,bs,H,_=>by
  obtain⟨⟨A,cap,rfl⟩,rfl⟩:=H;exact⟨λ_=>[],λV W st _ j l u _ h1 h2=>by cases j with|zero=>simp[ap]at h1 h2;subst h1;subst h2;exact⟨A,cap,rfl⟩|succ j=>simp[ap]at h1,λj l _ h1 _ k hk=>by simp at hk,λj j' l l' _ _ _ _ _ _ k hk=>by simp at hk⟩
 |.pair b c,h,pos,x,cs,bs,⟨c1,c2,b1,b2,e1,e2,h1,h2⟩,hnd=>by
  subst e1;subst e2;rw[Ao]at hnd;obtain⟨d1,f2,f3,f4⟩:=ig h1 hnd.1;obtain⟨d2,g2,g3,g4⟩:=ig h2 hnd.2.1;have hl1:=cu p b x.1;have hc1:=h1.len;have hsplit:∀ (j:Nat) (l:Leaf),(ap p b x.1++ap p c x.2)[j]?=some l->(j<b.cells/\(ap p b x.1)[j]?=some l)\/(b.cells<=j/\(ap p c x.2)[j-b.cells]?=some l):=by
   intro j l hj;by_cases hlt:j<b.cells
   ·rw[Ab (by omega)]at hj;exact .inl ⟨hlt,hj⟩
   ·rw[AZ (by omega),hl1]at hj;exact .inr ⟨by omega,hj⟩
  have hsh:∀ j,b.cells<=j->h≠some (pos+j)->h≠some (pos+b.cells+(j-b.cells)):=λj hj hh=>by rwa [show pos+b.cells+(j-b.cells)=pos+j by omega]
  refine⟨λj=>if j<b.cells then d1 j else d2 (j-b.cells),λV W st hG j l u hh hj hu=>?_,λj l hh hj ho k hk=>?_,λj j' l l' hh hh' hj ho hj' ho' k hk hk'=>?_⟩
  ·rcases hsplit j l hj with ⟨hlt,hj⟩|⟨hge,hj⟩
   ·rw[Ab (by omega)]at hu;simp only[if_pos hlt];exact f2 V W st hG j l u hh hj hu
   ·rw[AZ (by omega),hc1]at hu;simp only[if_neg (show ¬ j<b.cells by omega)];exact g2 V W st hG _ l u (hsh j hge hh) hj hu
  ·rcases hsplit j l hj with ⟨hlt,hj⟩|⟨hge,hj⟩
   ·simp only[if_pos hlt]at hk;exact AD _ (f3 j l hh hj ho k hk)
   ·simp only[if_neg (show ¬ j<b.cells by omega)]at hk;exact AE _ (g3 _ l (hsh j hge hh) hj ho k hk)
  ·rcases hsplit j l hj with ⟨hlt,hj⟩|⟨hge,hj⟩ <;> rcases hsplit j' l' hj' with ⟨hlt',hj'⟩|⟨hge',hj'⟩
   ·simp only[if_pos hlt]at hk;simp only[if_pos hlt']at hk';exact f4 j j' l l' hh hh' hj ho hj' ho' k hk hk'
   ·simp only[if_pos hlt]at hk;simp only[if_neg (show ¬ j'<b.cells by omega)]at hk';exact absurd rfl (hnd.2.2 k (f3 j l hh hj ho k hk) k (g3 _ l' (hsh j' hge' hh') hj' ho' k hk'))
   ·simp only[if_neg (show ¬ j<b.cells by omega)]at hk;simp only[if_pos hlt']at hk';exact absurd rfl (hnd.2.2 k (f3 j' l' hh' hj' ho' k hk') k (g3 _ l (hsh j hge hh) hj ho k hk))
   ·simp only[if_neg (show ¬ j<b.cells by omega)]at hk;simp only[if_neg (show ¬ j'<b.cells by omega)]at hk';have:=g4 _ _ l l' (hsh j hge hh) (hsh j' hge' hh') hj ho hj' ho' k hk hk';omega
 |.list m E e,h,pos,xs,cs,bs,H,hnd=>by
  cases m with
  |false =>
   rw[cn]at H;obtain⟨rfl,A,cap,rfl,h2,h3⟩:=H;refine⟨λ_=>[],λV W st hG j l u _ h1 h4=>?_,λj l _ h1 _ k hk=>by simp at hk,λj j' l l' _ _ _ _ _ _ k hk=>by simp at hk⟩;cases j with
   |zero =>
    simp[ap]at h1 h4;subst h1;subst h4;exact Rd.mono hG (⟨A,cap,rfl,h2,h3⟩:Rd w G (.list false E e) xs _)
   |succ j=>simp[ap]at h1
  |true =>
   refine⟨λ_=>bs,λV W st hG j l u hh h1 h4=>?_,λj l _ h1 _ k hk=>hk,λj j' l l' _ _ h1 _ h3 _ k _ _=>?_⟩
   ·cases j with
    |zero =>
     rw[Nat.add_zero]at hh;rw[cd hh]at H;obtain⟨v,rfl,hO⟩:=H;simp[ap]at h1 h4;subst h1;subst h4;exact⟨hnd,OwB.shy (hO.carry hG (λ_ _=>rfl) (λ_ _=>rfl))⟩
    |succ j=>simp[ap]at h1
   ·have h7:j<1:=by simpa[ap]using (AK.1 h1).1
    have h8:j'<1:=by simpa[ap]using (AK.1 h3).1
    omega
theorem lz {p:Bool}{off:Nat}:∀ {a:Ty} {pos:Nat} {x:a.den} {E:TypeId} {e:Ty} {xs:List e.den},be off a pos x=some ⟨E,e,xs⟩->(ap p a x)[off-pos]?=some (.own (p&&e.shy) none E e xs)
 |.pair a b,pos,x,E,e,xs,h=>by
  have hl:=cu p a x.1;simp only[be]at h;simp only[ap];split at h
  ·rename_i u hu;simp only[AA]at h;subst h;have hin:=fI hu;rw[Ab (by omega)];exact lz hu
  ·have hin:=fI h;rw[AZ (by omega),hl,show off-pos-a.cells=off-(pos+a.cells) by omega];exact lz h
 |.list m E' e',pos,ys,E,e,xs,h=>by
  simp only[be]at h;cases hb:m&&AJ pos off with
  |false=>simp[hb]at h
  |true =>
   rw[hb]at h;simp only[cond_true,AA,Sigma.mk.injEq]at h;obtain⟨rfl,h⟩:=h;simp only[AC]at hb;obtain⟨rfl,hb⟩:=hb;have hb:=AH hb;subst hb;rw[heq_eq_eq,Sigma.mk.injEq]at h;obtain⟨rfl,h⟩:=h;rw[heq_eq_eq]at h;subst h;simp[ap]
 |.int _,_,_,_,_,_,h=>by simp[be]at h
 |.bool,_,_,_,_,_,h=>by simp[be]at h
 |.str,_,_,_,_,_,h=>by simp[be]at h
 |.unit,_,_,_,_,_,h=>by simp[be]at h
 |.hdr,_,_,_,_,_,h=>by simp[be]at h
theorem su (V:Env)(W:Wit)(hro:V.ro0=ro)(hpr:V.prot=pr):∀ {cs:List (Bool×Ty)} {x:kN cs} {us:List Value},iK w ro pr cs x us->us.length=(iY true cs x).length /\
  ∀ (i:Nat) (c:Bool×Bool×(a:Ty)×a.den) (u:Value),(iY true cs x)[i]?=some c->us[i]?=some u->gV V W w c u
 |[],_,us,h=>by
  have h:us=[]:=h;subst h;exact⟨rfl,λi c u h1 _=>by simp[iY]at h1⟩
 |c::cs,x,us,⟨u,us',e,h1,h2⟩=>by
  subst e;obtain⟨i1,i2⟩:=su V W hro hpr h2;refine⟨by simp[iY,i1],λi c' u' h3 h4=>?_⟩;cases i with
  |succ i=>exact i2 i c' u' (by simpa[iY]using h3) (by simpa using h4)
  |zero =>
   simp[iY]at h3 h4;subst h3;subst h4;have hG:∀ k,ro k->gd V W true k:=λk hk=>.inr ⟨rfl,by rw[hro];exact hk⟩
   unfold gV;unfold gb at h1;split at h1
   ·rename_i hb;simp only[hb,if_true];obtain⟨b,ob,g,o,c2,hv,hb1,hcell,hg,hr,hc⟩:=h1;exact⟨b,ob,g,o,c2,hv,.inr (by rw[hpr];exact hb1),hcell,.inr (by rw[hpr];exact hg),hr.mono hG,hc⟩
   ·rename_i hb;have hb:c.1=false:=by simpa using hb
    simp only[hb,A1,if_false];obtain⟨g,o,c2,hv,hg,hr,hc⟩:=h1;exact⟨g,o,c2,by rw[hv];rfl,.inr (by rw[hpr];exact hg),hr.mono hG,hc⟩
structure Ent where
 r:Nat
 c:bS
 cs:List Value
 bs:Nat->List Nat
 bl:List Nat
 g:Nat
structure o7 (P:Program) (w:World) (ro pr:Nat->Prop) (bx:List (Nat×Nat)) (e:Ent):Prop where
 len:e.c.ls.length=e.cs.length
 one:∀ u∈e.cs,u.oneCell'=true
 leaf:∀ (V:Env) (W:Wit) (st:St),V.w0=w->V.ro0=ro->V.prot=pr->(∀ z∈bx,B0<=z.1/\(st z.1).sh=.agg/\W.β z.1=z.2)->∀ (j:Nat) (l:Leaf) (u:Value),e.c.ls[j]?=some l->e.cs[j]?=some u->aK P V W st w (e.bs j) l u
 own:∀ (j:Nat) (l:Leaf),e.c.ls[j]?=some l->an l->∀ k∈e.bs j,k∈e.bl
 sep:∀ (j j':Nat) (l l':Leaf),e.c.ls[j]?=some l->an l->e.c.ls[j']?=some l'->an l'->∀ k,k∈e.bs j->k∈e.bs j'->j=j'
 box:B0<=e.r->e.c.sh=.agg/\e.g∈e.bl/\(∀ (j:Nat) (l:Leaf),e.c.ls[j]?=some l->an l->e.g∉e.bs j)/\(∃ E,w.heap[e.g]?=some (.cells e.cs.toArray E (0,0)))/\(e.r,e.g)∈bx
theorem o7.mono {bx bx':List (Nat×Nat)}{e:Ent}(h:o7 P w ro pr bx e)(hb:∀ z∈bx,z∈bx'):o7 P w ro pr bx' e :=
  { len:=h.len,one:=h.one,own:=h.own,sep:=h.sep
    leaf:=λV W st h1 h2 h3 h4=>h.leaf V W st h1 h2 h3 (λz hz=>h4 z (hb z hz))
    box:=λhr=>by obtain⟨q1,q2,q3,q4,q5⟩:=h.box hr;exact⟨q1,q2,q3,q4,hb _ q5⟩ }
structure uT (P:Program) (w:World) (ro pr:Nat->Prop) (t:Nat) (pk:PK) (v:Value) (b:List Nat) (bx:List (Nat×Nat)) (es:List Ent):Prop where
 bl:es.flatMap (·.bl)=b
 ok:∀ e∈es,o7 P w ro pr bx e
 at_:∀ e∈es,e.r=t\/e.r=B0+t
 nod:(es.map (·.r)).Nodup
 slot:∃ e∈es,e.r=t/\dJ e.c.sh v e.cs
 bxs:∀ z∈bx,z.1=B0+t/\(∃ e∈es,e.r=B0+t/\e.g=z.2)
theorem sv (t n:Nat){a:Ty}{x:a.den}{v:Value}{cs:List Value}{b:List Nat}(hnd:b.Nodup)(h1:cX a.isAgg v cs)(h2:Mx w ro a none 0 x cs b)(htB:t<B0) :
    ∃ es,uT P w ro pr t (.own a) v b [] es/\[((t,⟨n,bj a.isAgg,ap true a x⟩):Nat×bS)]=es.map (λe=>(e.r,e.c)):=by
  obtain⟨bsd,m1,m2,m3⟩:=ig (P:=P) (p:=true) h2 hnd;have hn:∀ j,(none:Option Nat)≠some (0+j):=λj=>by simp
  refine⟨[⟨t,⟨n,bj a.isAgg,ap true a x⟩,cs,bsd,b,0⟩],⟨by simp,?_,by simp,by simp,⟨_,AV _,rfl,jg h1⟩,by simp⟩,rfl⟩;intro e he;simp only[Ah]at he;subst he
  exact { len := by show (ap true a x).length = _; rw [cu, h2.len]
          one:=h2.one
          leaf:=λV W st _ hro _ _ j l u h3 h4=>m1 V W st (λk hk=>.inr ⟨rfl,by rw[hro];exact hk⟩) j l u (hn j) h3 h4
          own:=λj l h3 h4=>m2 j l (hn j) h3 h4
          sep:=λj j' l l' h3 h4 h5 h6=>m3 j j' l l' (hn j) (hn j') h3 h4 h5 h6
          box:=λhr=>absurd hr (by show ¬ B0<=t;omega) }
theorem mI (t:Nat){l:Leaf}{v:Value}{pk:PK}(htB:t<B0)(hno:¬ an l)(h1:v.oneCell'=true)(hleaf:∀ (V:Env) (W:Wit) (st:St),V.w0=w->V.ro0=ro->V.prot=pr->aK P V W st w [] l v) :
    ∃ es,uT P w ro pr t pk v [] [] es/\[((t,⟨0,.one,[l]⟩):Nat×bS)]=es.map (λe=>(e.r,e.c)):=by
  refine⟨[⟨t,⟨0,.one,[l]⟩,[v],λ_=>[],[],0⟩],⟨by simp,?_,by simp,by simp,⟨_,AV _,rfl,rfl⟩,by simp⟩,rfl⟩;intro e he;simp only[Ah]at he;subst he;have h0:∀ (j:Nat) (l':Leaf),[l][j]?=some l'->j=0/\l'=l:=λj l' hj=>by
    cases j with
    |zero=>simp at hj;exact⟨rfl,hj.symm⟩
    |succ j=>simp at hj
  exact { len := rfl
          one:=λu hu=>by simp at hu;subst hu;exact h1
          leaf:=λV W st hw hro hpr _ j l' u h3 h4=>by
            obtain⟨rfl,rfl⟩:=h0 j l' h3;simp at h4;subst h4;exact hleaf V W st hw hro hpr
          own:=λj l' h3 h4=>by obtain⟨_,rfl⟩:=h0 j l' h3;exact absurd h4 hno
          sep:=λj j' l1 l2 h3 h4=>by obtain⟨_,rfl⟩:=h0 j l1 h3;exact absurd h4 hno
          box:=λhr=>absurd hr (by show ¬ B0<=t;omega) }
def sw:Value->Nat
 |.pointer (some a)=>a.block
 |_=>0
def dH (t:Nat):List PK->List Value->List (Nat×Nat)
 |.iop _::ps,v::vs=>(B0+t,sw v)::dH (t+1) ps vs
 |_::ps,_::vs=>dH (t+1) ps vs
 |_,_=>[]
def dI (t:Nat):List PK->List Value->List (Nat×Value)
 |.io _::ps,v::vs=>(t,v)::dI (t+1) ps vs
 |.iop _::ps,v::vs=>(t,v)::dI (t+1) ps vs
 |_::ps,_::vs=>dI (t+1) ps vs
 |_,_=>[]
def PK.bx (t:Nat)(v:Value):PK->List (Nat×Nat)
 |.iop _=>[(B0+t,sw v)]
 |_=>[]
theorem zA (t:Nat)(htB:t<B0){pk:PK}{ps:List PK}{x:ab (pk::ps)}{v:Value}{b:List Nat}(hnd:b.Nodup)(h:mF P w ro pr pk x.1 v b) :
    ∃ es,uT P w ro pr t pk v b (pk.bx t v) es/\di t (pk::ps) x=es.map (λe=>(e.r,e.c))++di (t+1) ps x.2:=by
  cases pk with
  |rd a =>
    obtain⟨rfl,cs,h1,h2⟩:=h;refine⟨[⟨t,⟨0,bj a.isAgg,cz true a x.1⟩,cs,λ_=>[],[],0⟩],⟨by simp,?_,by simp,by simp,⟨_,AV _,rfl,jg h1⟩,by simp[PK.bx]⟩,rfl⟩;intro e he;simp only[Ah]at he;subst he;have hls:∀ (V:Env) (W:Wit) (st:St),V.ro0=ro->aC P V W st w (cz true a x.1) cs:=λV W st hro=>er (G:=ro) (λk hk=>.inr ⟨rfl,by rw[hro];exact hk⟩) h2
    have hno:∀ (j:Nat) (l:Leaf),(cz true a x.1)[j]?=some l->¬ an l:=λj l hj=>by
      have hl:=fU true a x.1;have hc:=h2.len;have hlt:=(AK.1 hj).1;exact ((hls ⟨w,ro,[],0,[],[]⟩ ⟨λ_=>0,λ_=>[],λ_ _=>[],λ_=>False⟩ (λ_=>bS.none) rfl).at_ j l _ hj (AR (by omega))).2.1
    exact { len := by show (cz true a x.1).length = _; rw [fU, h2.len]
            one:=h2.one
            leaf:=λV W st _ hro _ _ j l u h3 h4=>((hls V W st hro).at_ j l u h3 h4).1
            own:=λj l h3 h4=>absurd h4 (hno j l h3)
            sep:=λj j' l l' h3 h4=>absurd h4 (hno j l h3)
            box:=λhr=>absurd hr (by show ¬ B0<=t;omega) }
  |own a =>
    obtain⟨cs,h1,h2⟩:=h;obtain⟨es,h3,h4⟩:=sv (P:=P) (pr:=pr) t 0 hnd h1 h2 htB;exact⟨es,⟨h3.bl,h3.ok,h3.at_,h3.nod,h3.slot,h3.bxs⟩,by rw[<- h4];rfl⟩
  |io a =>
    obtain⟨cs,h1,h2⟩:=h;obtain⟨es,h3,h4⟩:=sv (P:=P) (pr:=pr) t 7 hnd h1 h2 htB;exact⟨es,⟨h3.bl,h3.ok,h3.at_,h3.nod,h3.slot,h3.bxs⟩,by rw[<- h4];rfl⟩
  |rref a =>
    obtain⟨rfl,h⟩:=h;unfold gb at h;rw[if_neg (by simp)]at h;obtain⟨g,o,c,hv,hg,hr,hc⟩:=h;subst hv;obtain⟨es,h3,h4⟩:=mI (P:=P) (w:=w) (ro:=ro) (pr:=pr) t (pk:=.rref a) (l:=.rp true a x.1 0) (v:=.pointer (some ⟨g,o,none⟩)) htB id rfl (λV W st hw hro hpr=>⟨g,o,c,rfl,.inr (by rw[hpr];exact hg),hr.mono (λk hk=>.inr ⟨rfl,by rw[hro];exact hk⟩),hc⟩);exact⟨es,h3,by rw[<- h4];rfl⟩
  |rref2 a =>
    obtain⟨rfl,h⟩:=h;unfold gb at h;rw[if_pos rfl]at h;obtain⟨b,ob,g,o,c,hv,hb,hcell,hg,hr,hc⟩:=h;subst hv;obtain⟨es,h3,h4⟩:=mI (P:=P) (w:=w) (ro:=ro) (pr:=pr) t (pk:=.rref2 a) (l:=.rpp true a x.1) (v:=.pointer (some ⟨b,ob,none⟩)) htB id rfl (λV W st hw hro hpr=>⟨b,ob,g,o,c,rfl,.inr (by rw[hpr];exact hb),hcell,.inr (by rw[hpr];exact hg),hr.mono (λk hk=>.inr ⟨rfl,by rw[hro];exact hk⟩),hc⟩);exact⟨es,h3,by rw[<- h4];rfl⟩
  |fn As B =>
    obtain⟨rfl,h⟩:=h;have hv1:v.oneCell'=true:=by
      obtain⟨f,caps,e,_⟩:=h;rw[e];rfl
    obtain⟨es,h3,h4⟩:=mI (P:=P) (w:=w) (ro:=ro) (pr:=pr) t (pk:=.fn As B) (l:=.fn As B x.1) (v:=v) htB id hv1 (λV W st hw hro hpr=>by
      show ij P V.w0 V.prot As B x.1 v;rw[hw,hpr];exact h)
    exact⟨es,h3,by rw[<- h4];rfl⟩
  |clo f cs =>
    obtain⟨rfl,us,e,h⟩:=h;subst e;obtain⟨es,h3,h4⟩:=mI (P:=P) (w:=w) (ro:=ro) (pr:=pr) t (pk:=.clo f cs) (l:=.clr f (iY true cs x.1)) (v:=.func (.func f) #[] us.toArray) htB id rfl (λV W st hw hro hpr=>by
      obtain⟨i1,i2⟩:=su V W hro hpr h;exact⟨us,rfl,i1,i2⟩)
    exact⟨es,h3,by rw[<- h4];rfl⟩
  |iop a =>
    obtain⟨g,c,E,b0,hv,hg,hm,rfl⟩:=h;subst hv;rw[Ai]at hnd;obtain⟨bsd,m1,m2,m3⟩:=ig (P:=P) (p:=true) hm hnd.2;have hn:∀ j,(none:Option Nat)≠some (0+j):=λj=>by simp
    have hne:t≠B0+t:=by simp[B0]
    refine⟨[⟨t,⟨0,.one,[.bp (B0+t) 0]⟩,[.pointer (some ⟨g,0,none⟩)],λ_=>[],[],0⟩,⟨B0+t,⟨0,.agg,ap true a x.1⟩,c,bsd,g::b0,g⟩],
      ⟨by simp,?_,λe he=>by simp at he;rcases he with rfl|rfl <;> simp,by rw[AY,AY,Bh,Ai];exact⟨by simpa using hne,by simp⟩,⟨_,AG ..,rfl,rfl⟩,λz hz=>?_⟩,rfl⟩
    · intro e he
      simp only[AO,List.not_mem_nil,or_false]at he;rcases he with rfl|rfl
      · have h0:∀ (j:Nat) (l':Leaf),[Leaf.bp (B0+t) 0][j]?=some l'->j=0/\l'=.bp (B0+t) 0:=λj l' hj=>by
          cases j with
          |zero=>simp at hj;exact⟨rfl,hj.symm⟩
          |succ j=>simp at hj
        exact { len := rfl
                one:=λu hu=>by simp at hu;subst hu;rfl
                leaf:=λV W st hw hro hpr hb j l' u h3 h4=>by
                  obtain⟨rfl,rfl⟩:=h0 j l' h3;simp at h4;subst h4;obtain⟨q1,q2,q3⟩:=hb (B0+t,g) (AV _);exact⟨q1,q2,by rw[q3]⟩
                own:=λj l' h3 h4=>by obtain⟨_,rfl⟩:=h0 j l' h3;exact h4.elim
                sep:=λj j' l1 l2 h3 h4=>by obtain⟨_,rfl⟩:=h0 j l1 h3;exact h4.elim
                box:=λhr=>absurd hr (by show ¬ B0<=t;omega) }
      · exact { len := by show (ap true a x.1).length = _; rw [cu, hm.len]
                one:=hm.one
                leaf:=λV W st _ hro _ _ j l u h3 h4=>m1 V W st (λk hk=>.inr ⟨rfl,by rw[hro];exact hk⟩) j l u (hn j) h3 h4
                own:=λj l h3 h4 k hk=>AF _ (m2 j l (hn j) h3 h4 k hk)
                sep:=λj j' l l' h3 h4 h5 h6=>m3 j j' l l' (hn j) (hn j') h3 h4 h5 h6
                box:=λ_=>⟨rfl,AG ..,λj l h3 h4 hk=>hnd.1 (m2 j l (hn j) h3 h4 g hk),⟨E,hg⟩,AV _⟩ }
    · simp only[PK.bx,Ah]at hz
      subst hz;exact⟨rfl,_,AF _ (AV _),rfl,rfl⟩
  |hol a c off =>
    obtain⟨cs,u,b0,b1,E,e,xs,h1,h2,h3,h4,h5,h6⟩:=h;have hnd':=bz.1 hnd;have hnd0:b0.Nodup:=bz.2 λk=>by have:=hnd' k;have:=h6 k;omega
    have hnd1:b1.Nodup:=bz.2 λk=>by have:=hnd' k;have:=h6 k;omega
    have hdis:∀ k,k∈b0->k∉b1:=λk hk hk'=>by
      have:=hnd' k;have:=h6 k;have:=AW.2 hk;have:=AW.2 hk';omega
    have hin0:∀ k∈b0,k∈b:=λk hk=>AW.1 (by have:=h6 k;have:=AW.2 hk;omega)
    have hin1:∀ k∈b1,k∈b:=λk hk=>AW.1 (by have:=h6 k;have:=AW.2 hk;omega)
    obtain⟨bsd,m1,m2,m3⟩:=ig (P:=P) (p:=true) h2 hnd0;have hne:∀ j,j≠c->(some c:Option Nat)≠some (0+j):=λj hj=>by simp;omega
    have hlf:=lz (p:=true) h4;rw[Nat.sub_zero]at hlf;have hgd:(ap true a x.1.1).getD c .dead=.own (true&&e.shy) none E e xs:=by rw[AP,hlf];rfl
    refine⟨[⟨t,⟨0,bj a.isAgg,aR (ap true a x.1.1) c (.own (true&&e.shy) (some (x.1.2,off)) E e xs)⟩,cs,λj=>if j=c then b1 else bsd j,b,0⟩],
      ⟨by simp,?_,by simp,by simp,⟨_,AV _,rfl,jg h1⟩,by simp[PK.bx]⟩,?_⟩
    · intro en he
      simp only[Ah]at he;subst he;have hcase:∀ (j:Nat) (l:Leaf),(aR (ap true a x.1.1) c (.own (true&&e.shy) (some (x.1.2,off)) E e xs))[j]?=some l->(j=c/\l=.own (true&&e.shy) (some (x.1.2,off)) E e xs)\/(j≠c/\(ap true a x.1.1)[j]?=some l):=by
        intro j l hj;rcases aQ _ _ _ _ _ hj with ⟨q1,q2,_⟩|⟨q1,q2⟩
        · exact .inl ⟨q1,q2⟩
        · exact .inr ⟨q1,q2⟩
      exact { len := by show (aR (ap true a x.1.1) c _).length = _; simp only [aR, List.length_set]; rw [cu, h2.len]
              one:=h2.one
              leaf:=λV W st _ hro _ _ j l u' h7 h8=>by
                have h8:cs[j]?=some u':=h8;rcases hcase j l h7 with ⟨rfl,rfl⟩|⟨hj,h7⟩
                · rw[h3]at h8
                  simp only[AA]at h8;subst h8;simp only[if_true];exact⟨hnd1,OwB.shy (p:=true) (h5.carry (λk hk=>.inr ⟨rfl,by rw[hro];exact hk⟩) (λ_ _=>rfl) (λ_ _=>rfl))⟩
                · simp only[if_neg hj]
                  exact m1 V W st (λk hk=>.inr ⟨rfl,by rw[hro];exact hk⟩) j l u' (hne j hj) h7 h8
              own:=λj l h7 h8 k hk=>by
                rcases hcase j l h7 with ⟨rfl,rfl⟩|⟨hj,h7⟩
                · simp only[if_true]at hk;exact hin1 k hk
                · simp only[if_neg hj]at hk;exact hin0 k (m2 j l (hne j hj) h7 h8 k hk)
              sep:=λj j' l l' h7 h8 h9 h10 k hk hk'=>by
                rcases hcase j l h7 with ⟨rfl,rfl⟩|⟨hj,h7⟩ <;> rcases hcase j' l' h9 with ⟨rfl,rfl⟩|⟨hj',h9⟩
                · rfl
                · simp only[if_true]at hk;simp only[if_neg hj']at hk'
                  exact absurd hk (hdis k (m2 j' l' (hne j' hj') h9 h10 k hk'))
                · simp only[if_neg hj]at hk;simp only[if_true]at hk'
                  exact absurd hk' (hdis k (m2 j l (hne j hj) h7 h8 k hk))
                · simp only[if_neg hj]at hk;simp only[if_neg hj']at hk'
                  exact m3 j j' l l' (hne j hj) (hne j' hj') h7 h8 h9 h10 k hk hk'
              box:=λhr=>absurd hr (by show ¬ B0<=t;omega) }
    · show (t,(⟨0,bj a.isAgg,aR (ap true a x.1.1) c (td x.1.2 off ((ap true a x.1.1).getD c .dead))⟩:bS))::di (t+1) ps x.2=_
      rw[hgd];rfl
theorem sx:∀ {ps:List PK} {x:ab ps} {vs:List Value} {bss:List (List Nat)},cQ P w ro pr ps x vs bss->vs.length=ps.length
 |[],_,_,_,h=>by rw[h.1];rfl
 |_::_,_,_,_,⟨_,_,_,_,e,_,_,h⟩=>by rw[e,An,An,sx h]
theorem tO:∀ (ps:List PK) (x:ab ps) (vs:List Value) (bss:List (List Nat)) (t:Nat),cQ P w ro pr ps x vs bss->bss.flatten.Nodup->t+ps.length<=B0 ->
  ∃ es:List Ent,di t ps x=es.map (λe=>(e.r,e.c))/\es.flatMap (·.bl)=bss.flatten/\(∀ e∈es,o7 P w ro pr (dH t ps vs) e) /\
   (∀ e∈es,(t<=e.r/\e.r<t+ps.length)\/(B0+t<=e.r/\e.r<B0+t+ps.length))/\(es.map (·.r)).Nodup /\
   (∀ (i:Nat) (v:Value),vs[i]?=some v->∃ e∈es,e.r=t+i/\dJ e.c.sh v e.cs)/\(∀ z∈dH t ps vs,∃ e∈es,e.r=z.1/\e.g=z.2/\B0<=z.1)
 |[],x,vs,bss,t,⟨e1,e2⟩,_,_=>by
  subst e1;subst e2;exact⟨[],rfl,rfl,by simp,by simp,by simp,λi v h=>by simp at h,by simp[dH]⟩
 |pk::ps,x,vs,bss,t,⟨v,vs',b,bss',e1,e2,h1,h2⟩,hnd,hB=>by
  subst e1;subst e2;rw[AQ,Ao]at hnd;simp only[An]at hB;obtain⟨es1,p1,p2⟩:=zA t (by omega) (ps:=ps) (x:=x) hnd.1 h1;obtain⟨es2,q1,q2,q3,q4,q5,q6,q7⟩:=tO ps x.2 vs' bss' (t+1) h2 hnd.2.1 (by omega);have hfb:dH t (pk::ps) (v::vs')=pk.bx t v++dH (t+1) ps vs':=by cases pk <;> rfl
  refine⟨es1++es2,by rw[p2,q1,Az],by rw[List.flatMap_append,p1.bl,q2,AQ],λe he=>?_,λe he=>?_,?_,λi u hi=>?_,λz hz=>?_⟩
  ·rw[hfb];rcases AB.1 he with he|he
   ·exact (p1.ok e he).mono (λz hz=>AD _ hz)
   ·exact (q3 e he).mono (λz hz=>AE _ hz)
  ·simp only[An];rcases AB.1 he with he|he
   ·rcases p1.at_ e he with h|h <;> omega
   ·rcases q4 e he with h|h <;> omega
  ·rw[Az,Ao];refine⟨p1.nod,q5,λa ha b' hb' e0=>?_⟩;subst e0;obtain⟨e,he,rfl⟩:=AL.1 ha;obtain⟨e',he',e1⟩:=AL.1 hb';rcases p1.at_ e he with h|h <;> rcases q4 e' he' with h'|h' <;> omega
  ·cases i with
   |zero =>
    simp at hi;subst hi;obtain⟨e,he,h3,h4⟩:=p1.slot;exact⟨e,AD _ he,by omega,h4⟩
   |succ i =>
    obtain⟨e,he,h3,h4⟩:=q6 i u (by simpa using hi);exact⟨e,AE _ he,by omega,h4⟩
  ·rw[hfb]at hz;rcases AB.1 hz with hz|hz
   ·obtain⟨h3,e,he,h4,h5⟩:=p1.bxs z hz;exact⟨e,AD _ he,by rw[h4,h3],h5,by rw[h3];exact Nat.le_add_right _ _⟩
   ·obtain⟨e,he,h4,h5,h6⟩:=q7 z hz;exact⟨e,AE _ he,h4,h5,h6⟩
def fw (w:World)(ro:Nat->Prop)(ps:List PK)(vs:List Value)(bss:List (List Nat))(nt:Nat):Env:=⟨w,ro,bss.flatten,nt,dH 0 ps vs,dI 0 ps vs⟩
theorem mJ:∀ {es:List Ent},(es.flatMap (·.bl)).Nodup->∀ e∈es,∀ e'∈es,∀ k,k∈e.bl->k∈e'.bl->e=e'
 |[],_,e,he,_,_,_,_,_=>by simp at he
 |x::es,hnd,e,he,e',he',k,hk,hk'=>by
  rw[List.flatMap_cons,Ao]at hnd;rcases AO.1 he with h1|h1 <;> rcases AO.1 he' with h2|h2
  ·rw[h1,h2]
  ·rw[h1]at hk;exact absurd rfl (hnd.2.2 k hk k (AT.2 ⟨e',h2,hk'⟩))
  ·rw[h2]at hk';exact absurd rfl (hnd.2.2 k hk' k (AT.2 ⟨e,h1,hk⟩))
  ·exact mJ hnd.2.1 e h1 e' h2 k hk hk'
theorem wk:∀ {es:List Ent},(es.map (·.r)).Nodup->∀ e∈es,∀ e'∈es,e.r=e'.r->e=e'
 |[],_,e,he,_,_,_=>by simp at he
 |x::es,hnd,e,he,e',he',hr=>by
  rw[AY,Ai]at hnd;rcases AO.1 he with h1|h1 <;> rcases AO.1 he' with h2|h2
  ·rw[h1,h2]
  ·exact absurd (AL.2 ⟨e',h2,by rw[<- hr,h1]⟩) hnd.1
  ·exact absurd (AL.2 ⟨e,h1,by rw[hr,h2]⟩) hnd.1
  ·exact wk hnd.2 e h1 e' h2 hr
theorem qt:∀ (es:List Ent) (q:Nat),(az (es.map λe=>(e.r,e.c)) q=bS.none/\es.find? (λe=>e.r==q)=none)\/∃ e∈es,e.r=q/\es.find? (λe=>e.r==q)=some e/\az (es.map λe=>(e.r,e.c)) q=e.c
 |[],q=>.inl ⟨rfl,rfl⟩
 |e::es,q=>by
  by_cases h:e.r=q
  ·refine .inr ⟨e,AG ..,h,by simp[h],?_⟩;simp[az,ac,h]
  ·have hb:AJ q e.r=false:=by
    cases hb:AJ q e.r with
    |false=>rfl
    |true=>exact absurd (AH hb).symm h
   have e1:az ((e::es).map λe=>(e.r,e.c)) q=az (es.map λe=>(e.r,e.c)) q:=by simp[az,ac,hb]
   have e2:(e::es).find? (λe=>e.r==q)=es.find? (λe=>e.r==q):=by simp[h]
   rw[e1,e2];rcases qt es q with h1|⟨e',h1,h2,h3,h4⟩
   ·exact .inl h1
   ·exact .inr ⟨e',AF _ h1,h2,h3,h4⟩
theorem tP:∀ {ps:List PK} {vs:List Value} {t:Nat} {z:Nat×Value},z∈dI t ps vs->∃ i,z.1=t+i/\vs[i]?=some z.2
 |[],_,_,_,h=>by simp[dI]at h
 |pk::ps,[],_,_,h=>by cases pk <;> simp[dI]at h
 |pk::ps,v::vs,t,z,h=>by
  have:z=(t,v)\/z∈dI (t+1) ps vs:=by cases pk <;> simp[dI]at h <;> first|exact h|exact .inr h
  rcases this with rfl|h
  ·exact⟨0,rfl,rfl⟩
  ·obtain⟨i,h1,h2⟩:=tP h;exact⟨i+1,by omega,by simpa using h2⟩
theorem tQ {ps:List PK}{x:ab ps}{vs:List Value}{bss:List (List Nat)}{nt:Nat}(h:cQ P w ro (λk=>k<w.heap.size/\k∉bss.flatten) ps x vs bss)(hnd:bss.flatten.Nodup)
  (hnt:ps.length<=nt) (hB:nt<=GH):Rel P (fw w ro ps vs bss nt) (az (di 0 ps x)) { tmps:=vs.toArray++Aj (nt-vs.length) undef,defers:=[] } w:=by
 have hlen:=sx h;have hGB:GH<=B0:=by decide
 obtain⟨es,q1,q2,q3,q4,q5,q6,q7⟩:=tO ps x vs bss 0 h hnd (by omega);rw[q1];have hat:=qt es;have huniq:∀ e∈es,∀ e'∈es,e.r=e'.r->e=e':=by
  intro e he e' he' hr;exact wk q5 e he e' he' hr
 rw[<- q2]at hnd;have hblown:∀ e∈es,∀ k∈e.bl,k∈bss.flatten:=λe he k hk=>by rw[<- q2];exact AT.2 ⟨e,he,hk⟩
 have hE:∀ q,(az (es.map λe=>(e.r,e.c)) q=bS.none/\es.find? (λe=>e.r==q)=none)\/∃ e∈es,e.r=q/\es.find? (λe=>e.r==q)=some e/\az (es.map λe=>(e.r,e.c)) q=e.c:=hat;have hbox:∀ q,live (az (es.map λe=>(e.r,e.c))) q->∃ e∈es,e.r=q/\B0<=e.r/\es.find? (λe=>e.r==q)=some e:=by
  rintro q ⟨h1,h2⟩;rcases hE q with ⟨h3,_⟩|⟨e,h3,h4,h5,h6⟩
  ·rw[h3]at h2;cases h2
  ·exact⟨e,h3,h4,by rw[h4];exact h1,h5⟩
 let β:Nat->Nat:=λq=>match es.find? (λe=>e.r==q) with|some e=>e.g|none=>0
 let cs:Nat->List Value:=λq=>match es.find? (λe=>e.r==q) with|some e=>e.cs|none=>[]
 let bs:Nat->Nat->List Nat:=λq j=>match es.find? (λe=>e.r==q) with|some e=>e.bs j|none=>[]
 have hfbx:∀ z∈dH 0 ps vs,B0<=z.1/\(az (es.map λe=>(e.r,e.c)) z.1).sh=.agg/\β z.1=z.2:=by
  intro z hz;obtain⟨e,he,h1,h2,h3⟩:=q7 z hz;refine⟨h3,?_⟩;rcases hE z.1 with ⟨_,h4⟩|⟨e',h4,h5,h6,h7⟩
  ·exfalso;rw[BT]at h4;exact h4 e he (by simp[h1])
  ·have:e'=e:=huniq e' h4 e he (by rw[h5,h1]);subst this;rw[h7];exact⟨((q3 e' he).box (by rw[h1];exact h3)).1,by simp only[β,h6];exact h2⟩
 refine⟨{ β:=β,cs:=cs,bs:=bs,nw:=λ_=>False },?_⟩;have hprot:(fw w ro ps vs bss nt).prot=λk=>k<w.heap.size/\k∉bss.flatten:=rfl
 exact {
  nt:=by show (vs.toArray++Aj (nt-vs.length) undef).size=nt;simp;omega
  df:=rfl
  slots:=λt ht=>by
   show dJ _ ((vs.toArray++Aj (nt-vs.length) undef).getD t undef) (cs t);by_cases hq:t<ps.length
   ·have hv:=AR (show t<vs.length by omega);have:(vs.toArray++Aj (nt-vs.length) undef).getD t undef=vs[t]:=by
     rw[AN,A4 (by simp;omega)];simp[hv]
    rw[this];obtain⟨e,he,h1,h2⟩:=q6 t _ hv;rw[Ar]at h1;rcases hE t with ⟨_,h4⟩|⟨e',h4,h5,h6,h7⟩
    ·exfalso;rw[BT]at h4;exact h4 e he (by simp[h1])
    ·have:e'=e:=huniq e' h4 e he (by rw[h5,h1]);subst this;rw[h7];simp only[cs,h6];exact h2
   ·rcases hE t with ⟨h3,h4⟩|⟨e',h4,h5,h6,h7⟩
    ·rw[h3];simp only[cs,h4];rfl
    ·rcases q4 e' h4 with h8|h8 <;> omega
  boxes:=λb hb=>by
   rcases hE b with ⟨h3,h4⟩|⟨e',h4,h5,h6,h7⟩
   ·rw[h3];exact .inl ⟨rfl,rfl⟩
   ·obtain⟨g1,g2,g3,⟨E,g4⟩,g5⟩:=(q3 e' h4).box (by rw[h5];exact hb);rw[h7];exact .inr ⟨g1,E,by simp only[β,cs,h6];exact g4⟩
  len:=λq=>by
   rcases hE q with ⟨h3,h4⟩|⟨e',h4,h5,h6,h7⟩
   ·rw[h3];simp only[cs,h4];rfl
   ·rw[h7];simp only[cs,h6];exact (q3 e' h4).len
  one:=λq u hu=>by
   have hu:u∈cs q:=hu;rcases hE q with ⟨h3,h4⟩|⟨e',h4,h5,h6,h7⟩
   ·simp only[cs,h4]at hu;simp at hu
   ·simp only[cs,h6]at hu;exact (q3 e' h4).one u hu
  leaf:=λq j l v hl hv=>by
   have hv:(cs q)[j]?=some v:=hv;rcases hE q with ⟨h3,h4⟩|⟨e',h4,h5,h6,h7⟩
   ·rw[h3]at hl;simp[bS.none]at hl
   ·rw[h7]at hl;simp only[cs,h6]at hv;show aK P _ _ _ w (bs q j) l v;simp only[bs,h6];exact (q3 e' h4).leaf (fw w ro ps vs bss nt) _ _ rfl rfl rfl hfbx j l v hl hv
  ownb:=λq j l hl ho k hk=>by
   have hk:k∈bs q j:=hk;rcases hE q with ⟨h3,h4⟩|⟨e',h4,h5,h6,h7⟩
   ·rw[h3]at hl;simp[bS.none]at hl
   ·rw[h7]at hl;simp only[bs,h6]at hk;have hkb:=(q3 e' h4).own j l hl ho k hk;refine⟨id,λhp=>hp.2 (hblown e' h4 k hkb),λb hb e0=>?_⟩;obtain⟨e2,g1,g2,g3,g4⟩:=hbox b hb;have hgb:=(q3 e2 g1).box g3;have e0:β b=k:=e0;simp only[β,g4]at e0;have:=mJ hnd e' h4 e2 g1 k hkb (by rw[<- e0];exact hgb.2.1);subst this;exact hgb.2.2.1 j l hl ho (by rw[e0];exact hk)
  sep:=λq j l q' j' l' hl ho hl' ho' k hk hk'=>by
   have hk:k∈bs q j:=hk;have hk':k∈bs q' j':=hk';rcases hE q with ⟨h3,h4⟩|⟨e1,h4,h5,h6,h7⟩
   ·rw[h3]at hl;simp[bS.none]at hl
   ·rcases hE q' with ⟨h3',h4'⟩|⟨e2,h4',h5',h6',h7'⟩
    ·rw[h3']at hl';simp[bS.none]at hl'
    ·rw[h7]at hl;rw[h7']at hl';simp only[bs,h6]at hk;simp only[bs,h6']at hk';have:=mJ hnd e1 h4 e2 h4' k ((q3 e1 h4).own j l hl ho k hk) ((q3 e2 h4').own j' l' hl' ho' k hk');subst this;exact⟨by rw[<- h5,<- h5'],(q3 e1 h4).sep j j' l l' hl ho hl' ho' k hk hk'⟩
  box:=λb hb=>by
   obtain⟨e2,g1,g2,g3,g4⟩:=hbox b hb;have hgb:=(q3 e2 g1).box g3;refine⟨id,λhp=>hp.2 ?_⟩;show β b∈_;simp only[β,g4];exact hblown e2 g1 _ hgb.2.1
  inj:=λb b' hb hb' e0=>by
   obtain⟨e1,g1,g2,g3,g4⟩:=hbox b hb;obtain⟨e2,g1',g2',g3',g4'⟩:=hbox b' hb';have e0:β b=β b':=e0;simp only[β,g4,g4']at e0;have:=mJ hnd e1 g1 e2 g1' e1.g ((q3 e1 g1).box g3).2.1 (by rw[e0];exact ((q3 e2 g1').box g3').2.1);subst this;rw[<- g2,<- g2']
  nwlt:=λk hk=>hk.elim
  os:=rfl,tape:=rfl,output:=rfl,size:=BI _,keep:=λ_ _=>rfl
  fixb:=λz hz=>by
   obtain⟨h1,h2,h3⟩:=hfbx z hz;exact⟨⟨h1,h2⟩,h3⟩
  fixt:=λz hz=>by
   obtain⟨i,h1,h2⟩:=tP hz;rw[Ar]at h1;show (vs.toArray++Aj (nt-vs.length) undef).getD z.1 undef=z.2;rw[h1,AN,A4 (by simpa using (AK.1 h2).1)];simp[h2] }
end
section
variable {P:Program} {V:Env} {W:Wit} {Γ:List Ctr} {T:TypeId->TI} {R:Type} {st:St} {a:Act} {w:World} {ro:Nat->Prop}
theorem zC (hT:TOk P T)(h:ao P V W st a w)(x:ResultVar)(hx:nY st T x≠.off) :
  ∃ v cs,(match x with|.tmp t=>(pure (a.tmps.getD t undef):Sem Value)|.cell b t=>(do loadVar t (<- asAddr (a.tmps.getD b undef)):Sem Value)).run P w=.ok v w /\
   dJ (nY st T x) v cs/\aC P V W st w (tS st T x) cs:=by
 cases x with
 |tmp t =>
  obtain⟨cs,h1,h2⟩:=cH h (.tmp t);exact⟨_,cs,rfl,h1,h2⟩
 |cell t ty =>
  simp only[nY]at hx ⊢;split at hx
  ·rename_i b off hb;cases hc:decide ((st b).sh=.agg)&&BK (off+(T ty).cells) (st b).ls.length&&!AJ (T ty).cells 0 with
   |false=>rw[hc]at hx;exact absurd rfl hx
   |true =>
    simp only[hb,hc,cond_true,tS];simp only[AC,decide_eq_true_eq,Al]at hc;obtain⟨⟨h1,h2⟩,h3⟩:=hc;have h2:off+(T ty).cells<=(st b).ls.length:=Ad h2;have hnn:T ty≠.none:=by
     intro e;rw[e]at h3;simp[TI.cells]at h3
    obtain⟨hp,_,_,_,_⟩:=bu h (.tmp t) (by rw[hb];simp);rw[hb]at hp;obtain⟨hB,hag,hv⟩:=hp;have hv:a.tmps.getD t undef=.pointer (some ⟨W.β b,off,none⟩):=hv;rcases h.boxes b hB with ⟨h8,_⟩|⟨_,E,h8⟩
    ·rw[hag]at h8;cases h8
    ·have hcell:cJ w (W.β b) 0 (W.cs b):=λi v hv=>by
      rw[Ar,cell_of_row w (W.β b) i _ E (0,0) h8];simpa using hv
     have hlen:=h.len b;have hc2:=hcell.sub off (T ty).cells;rw[Ar]at hc2;obtain⟨v,hrun,hsh⟩:=mN (hT ty) hnn hc2 (by simp;omega);refine⟨v,_,?_,hsh,((gL h b).drop off).take _⟩;simp only[hv];simpa[asAddr]using hrun
  ·exact absurd rfl hx
def mv (a:Act):ResultVar->Sem Value
 |.tmp t=>pure (a.tmps.getD t undef)
 |.cell b t=>do loadVar t (<- asAddr (a.tmps.getD b undef))
def mw (P:Program)(a:Act)(w:World):List ResultVar->List Value->Prop
 |[],vs=>vs=[]
 |x::xs,vs=>∃ v vs',vs=v::vs'/\(mv a x).run P w=.ok v w/\mw P a w xs vs'
theorem qu:∀ (l:List ResultVar) (vs:List Value),mw P a w l vs->(l.mapM (mv a)).run P w=.ok vs w
 |[],_,h=>by rw[show _=_ from h];rfl
 |x::l,_,⟨v,vs',e,h1,h2⟩=>by subst e;simp[BJ,h1,qu l vs' h2]
theorem yI (b:Bool):bj b≠.off:=by cases b <;> simp[bj]
def RK.isBox:RK->Bool
 |.box _=>true
 |_=>false
theorem sy (hV:ax V)(hT:TOk P T)(h:ao P V W st a w)(hro:V.ro0=ro){fx:List Nat}:∀ (rs:List RK) (vars:List ResultVar) (y:cA (ak rs)),jo st T fx rs vars=some y ->
  ∀ {G:Nat->Prop},(∀ k,bo V W y.p y.frz k->G k) ->
  ∃ (us:List Value) (rbs:List (List Nat)) (bx:List Nat),mw P a w vars us/\fJ w G ro rs y.val us rbs/\(∀ k,rbs.flatten.count k=(aU W y.kill).count k+(bx.map W.β).count k) /\
   (∀ b∈bx,live st b/\fx.any (AJ b)=false)/\bx.length=rs.countP RK.isBox/\(∀ z∈y.frz,aB st z)/\∀ z∈y.kill,aB st z
 |[],[],y,hr,G,hG=>by
  simp only[jo,AA]at hr;subst hr;exact⟨[],[],[],rfl,⟨rfl,rfl⟩,λk=>by simp[aU],by simp,rfl,by simp,by simp⟩
 |[],_::_,_,hr,_,_=>by simp[jo]at hr
 |_::_,[],_,hr,_,_=>by simp[jo]at hr
 |r::rs,x::vars,y,hr,G,hG=>by
  simp only[jo]at hr;cases hsh:decide (nY st T x=r.sh) with
  |false=>simp[hsh]at hr
  |true =>
   simp only[hsh,cond_true]at hr;have hsh:=of_decide_eq_true hsh;split at hr
   ·rename_i y1 y2 hy1 hy2;simp only[AA]at hr;subst hr;obtain⟨v,cs1,hrun,hs1,hl1⟩:=zC hT h x (by rw[hsh];cases r <;> simp only[RK.sh] <;> first|exact yI _|simp);rw[hsh]at hs1;have hG1:∀ k,bo V W y1.p y1.frz k->G k:=λk hk=>hG k (dt.1 k hk)
    have hG2:∀ k,bo V W y2.p y2.frz k->G k:=λk hk=>hG k (dt.2 k hk)
    obtain⟨us,rbs,bx,i1,i2,i3,i4,i5,i6,i7⟩:=sy hV hT h hro rs vars y2 hy2 hG2;have hrun':(mv a x).run P w=.ok v w:=by cases x <;> exact hrun
    have fin:∀ (b:List Nat) (bx1:List Nat),oP w G ro r y1.val v b->(∀ k,b.count k=(aU W y1.kill).count k+(bx1.map W.β).count k)->(∀ b∈bx1,live st b/\fx.any (AJ b)=false)->bx1.length=(if r.isBox then 1 else 0)->(∀ z∈y1.frz,aB st z)->(∀ z∈y1.kill,aB st z) ->
      ∃ (us:List Value) (rbs:List (List Nat)) (bx:List Nat),mw P a w (x::vars) us/\fJ w G ro (r::rs) (y1.val,y2.val) us rbs/\(∀ k,rbs.flatten.count k=(aU W (y1.kill++y2.kill)).count k+(bx.map W.β).count k) /\
       (∀ b∈bx,live st b/\fx.any (AJ b)=false)/\bx.length=(r::rs).countP RK.isBox/\(∀ z∈y1.frz++y2.frz,aB st z)/\∀ z∈y1.kill++y2.kill,aB st z:=by
     intro b bx1 f1 f2 f3 f4 f5 f6;refine⟨v::us,b::rbs,bx1++bx,⟨v,us,rfl,hrun',i1⟩,⟨v,us,b,rbs,rfl,rfl,f1,i2⟩,λk=>?_,λz hz=>(AB.1 hz).elim (f3 z) (i4 z),?_,λz hz=>(AB.1 hz).elim (f5 z) (i6 z),λz hz=>(AB.1 hz).elim (f6 z) (i7 z)⟩
     ·rw[AQ,AU,f2 k,i3 k,dp,AU,Az,AU];omega
     ·rw[List.length_append,f4,i5,BZ];cases r.isBox <;> simp <;> omega
    cases r with
    |v b =>
     simp only[qH]at hy1;obtain⟨g1,g2,g3⟩:=dq (pos:=0) h hl1 hy1;exact fin (aU W y1.kill) [] ⟨cs1,fK hs1,g1.mono hG1⟩ (λk=>by simp) (by simp) rfl g2 g3
    |bv b =>
     simp only[qH,AI]at hy1;obtain⟨⟨p,z⟩,hz,rfl⟩:=hy1;have g1:=dX h hl1 hz;refine fin [] [] ⟨rfl,cs1,fK hs1,g1.mono λk hk=>?_⟩ (λk=>by simp[aU]) (by simp) rfl (λz hz=>dN hl1 hz) (by simp);rcases hk with (hk|⟨_,hk⟩)|hk
     ·exact .inl (hG1 k (.inl (.inl hk)))
     ·exact .inr (by rw[<- hro];exact hk)
     ·exact .inl (hG1 k (.inr hk))
    |box b =>
     simp only[qH]at hy1;split at hy1
     ·rename_i b0 hls;cases hfx:!(fx.any (AJ b0)) with
      |false=>rw[hfx]at hy1;cases hy1
      |true =>
       rw[hfx]at hy1;simp only[cond_true]at hy1;have hs1:cs1=[v]:=hs1;subst hs1;rw[hls]at hl1;obtain⟨hB,hag,hval⟩:=hl1.1.1;obtain⟨g1,g2,g3⟩:=dq (pos:=0) h (gL h b0) hy1;rcases h.boxes b0 hB with ⟨h8,_⟩|⟨_,E,h8⟩
       ·rw[hag]at h8;cases h8
       ·exact fin (W.β b0::aU W y1.kill) [b0] ⟨W.β b0,W.cs b0,E,_,hval,h8,g1.mono hG1,rfl⟩ (λk=>by
         rw[A0,AY,Bh,A0,List.count_nil];omega) (λb' hb'=>by
         simp at hb';subst hb';exact⟨⟨hB,hag⟩,by simpa using hfx⟩) rfl g2 g3
     ·cases hy1
   ·cases hr
theorem lA (hV:ax V)(h:ao P V W st a w){w0:World}{pr:Nat->Prop}(hnt:V.nt<=GH):∀ (ps:List PK) (x:ab ps) (vs:List Value) (bss:List (List Nat)) (t:Nat) (o:cA (aj ps)),cQ P w0 ro pr ps x vs bss->gx st t ps=some o->t+ps.length<=V.nt ->
  (∀ z∈dI t ps vs,a.tmps.getD z.1 undef=z.2)->(∀ z∈dH t ps vs,live st z.1/\W.β z.1=z.2)->∀ {G:Nat->Prop},(∀ k,bo V W o.p o.frz k->G k) ->
  ∃ oss,bJ w G ps o.val vs oss/\(∀ k,oss.flatten.count k=(aU W o.kill).count k+((bG t ps).map W.β).count k)/\(∀ z∈o.frz,aB st z)/\(∀ z∈o.kill,aB st z)/\∀ b∈bG t ps,live st b
 |[],x,vs,bss,t,o,⟨e1,e2⟩,ho,_,_,_,G,hG=>by
  simp only[gx,AA]at ho;subst ho;subst e1;exact⟨[],trivial,λk=>by simp[aU,bG],by simp,by simp,by simp[bG]⟩
 |pk::ps,x,vs,bss,t,o,⟨v,vs',b,bss',e1,e2,h1,h2⟩,ho,ht,hft,hfb,G,hG=>by
  subst e1;subst e2;simp only[An]at ht;have other:∀ (o':cA (aj ps)),gx st (t+1) ps=some o'->dI t (pk::ps) (v::vs')=dI (t+1) ps vs'->dH t (pk::ps) (v::vs')=dH (t+1) ps vs'->(∀ k,bo V W o'.p o'.frz k->G k) ->
    ∃ oss,bJ w G ps o'.val vs' oss/\(∀ k,oss.flatten.count k=(aU W o'.kill).count k+((bG (t+1) ps).map W.β).count k)/\(∀ z∈o'.frz,aB st z)/\(∀ z∈o'.kill,aB st z)/\∀ b∈bG (t+1) ps,live st b:=by
   intro o' ho' e1 e2 hG';exact lA hV h hnt ps x.2 vs' bss' (t+1) o' h2 ho' (by omega) (λz hz=>hft z (by rw[e1];exact hz)) (λz hz=>hfb z (by rw[e2];exact hz)) hG'
  cases pk with
  |io b =>
   simp only[gx]at ho;split at ho
   ·rename_i y1 y2 hy1 hy2;simp only[AA]at ho;subst ho;obtain⟨oss,i1,i2,i3,i4,i5⟩:=lA hV h hnt ps x.2 vs' bss' (t+1) y2 h2 hy2 (by omega) (λz hz=>hft z (AF _ hz)) (λz hz=>hfb z hz) (λk hk=>hG k (dt.2 k hk));cases hb:decide ((ar st (.tmp t)).1=bj b.isAgg) with
    |false=>rw[hb]at hy1;cases hy1
    |true =>
     rw[hb]at hy1;simp only[cond_true]at hy1;obtain⟨cs,h3,h4⟩:=cH h (.tmp t);rw[of_decide_eq_true hb]at h3;have hv:a.eval (.tmp t)=v:=hft (t,v) (AG ..);rw[hv]at h3;obtain⟨g1,g2,g3⟩:=dq (pos:=0) h h4 hy1;refine⟨aU W y1.kill::oss,⟨?_,i1⟩,λk=>?_,λz hz=>(AB.1 hz).elim (g2 z) (i3 z),λz hz=>(AB.1 hz).elim (g3 z) (i4 z),i5⟩
     ·unfold iD;rw[if_neg (by simp)];exact⟨cs,fK h3,g1.mono (λk hk=>hG k (dt.1 k hk))⟩
     ·rw[AQ,AU,i2 k,dp,AU];show _=_+((bG (t+1) ps).map W.β).count k;omega
   ·cases ho
  |iop b =>
   simp only[gx]at ho;split at ho
   ·rename_i y1 y2 hy1 hy2;simp only[AA]at ho;subst ho;obtain⟨oss,i1,i2,i3,i4,i5⟩:=lA hV h hnt ps x.2 vs' bss' (t+1) y2 h2 hy2 (by omega) (λz hz=>hft z (AF _ hz)) (λz hz=>hfb z (AF _ hz)) (λk hk=>hG k (dt.2 k hk));obtain⟨g,c,E,b0,hv,_,_,_⟩:=h1;subst hv;obtain⟨hlv,hβ⟩:=hfb (B0+t,sw (.pointer (some ⟨g,0,none⟩))) (AG ..);have hβ:W.β (B0+t)=g:=hβ;obtain⟨g1,g2,g3⟩:=dq (pos:=0) h (gL h (B0+t)) hy1;rcases h.boxes (B0+t) hlv.1 with ⟨h8,_⟩|⟨_,E',h8⟩
    ·have:=hlv.2;rw[h8]at this;cases this
    ·refine⟨(g::aU W y1.kill)::oss,⟨?_,i1⟩,λk=>?_,λz hz=>(AB.1 hz).elim (g2 z) (i3 z),λz hz=>(AB.1 hz).elim (g3 z) (i4 z),λb' hb'=>?_⟩
     ·unfold iD;rw[if_pos rfl];exact⟨g,W.cs (B0+t),E',_,rfl,by rw[<- hβ];exact h8,g1.mono (λk hk=>hG k (dt.1 k hk)),rfl⟩
     ·rw[AQ,AU,i2 k,dp,AU,A0];show _=_+(W.β (B0+t)::(bG (t+1) ps).map W.β).count k;rw[A0,hβ];omega
     ·rcases AO.1 hb' with rfl|hb'
      ·exact hlv
      ·exact i5 b' hb'
   ·cases ho
  |rd b =>
   obtain⟨oss,i1,i2,i3,i4,i5⟩:=other o ho rfl rfl hG;exact⟨[]::oss,⟨rfl,i1⟩,λk=>by rw[AQ,Ag];exact i2 k,i3,i4,i5⟩
  |own b =>
   obtain⟨oss,i1,i2,i3,i4,i5⟩:=other o ho rfl rfl hG;exact⟨[]::oss,⟨rfl,i1⟩,λk=>by rw[AQ,Ag];exact i2 k,i3,i4,i5⟩
  |rref b =>
   obtain⟨oss,i1,i2,i3,i4,i5⟩:=other o ho rfl rfl hG;exact⟨[]::oss,⟨rfl,i1⟩,λk=>by rw[AQ,Ag];exact i2 k,i3,i4,i5⟩
  |rref2 b =>
   obtain⟨oss,i1,i2,i3,i4,i5⟩:=other o ho rfl rfl hG;exact⟨[]::oss,⟨rfl,i1⟩,λk=>by rw[AQ,Ag];exact i2 k,i3,i4,i5⟩
  |fn As B =>
   obtain⟨oss,i1,i2,i3,i4,i5⟩:=other o ho rfl rfl hG;exact⟨[]::oss,⟨rfl,i1⟩,λk=>by rw[AQ,Ag];exact i2 k,i3,i4,i5⟩
  |clo f cs =>
   obtain⟨oss,i1,i2,i3,i4,i5⟩:=other o ho rfl rfl hG;exact⟨[]::oss,⟨rfl,i1⟩,λk=>by rw[AQ,Ag];exact i2 k,i3,i4,i5⟩
  |hol b c off =>
   obtain⟨oss,i1,i2,i3,i4,i5⟩:=other o ho rfl rfl hG;exact⟨[]::oss,⟨rfl,i1⟩,λk=>by rw[AQ,Ag];exact i2 k,i3,i4,i5⟩
end
section
variable {P:Program} {Γ:List Ctr} {T:TypeId->TI} {w:World} {ro:Nat->Prop}
theorem sZ {fn:Func}{a:Act}{w:World}{vals:List Value}(h:mw P a w fn.results.toList vals):(results fn a.tmps).run P w=.ok (if h:vals.toArray.size=1 then vals.toArray[0] else .tuple vals.toArray) w:=by
 have h1:=qu _ _ h;have e:results fn a.tmps=(fn.results.mapM (mv a) >>= λvs=>pure (if h:vs.size=1 then vs[0] else .tuple vs)):=by
  unfold results;congr 1
 have h2:(fn.results.mapM (mv a)).run P w=.ok vals.toArray w:=by
  rw[Array.mapM_eq_mapM_toList];simp[h1]
 rw[e];simp only[Aw,h2,Ap,BV]
theorem zD (us:List Value):qR us (if h:us.toArray.size=1 then us.toArray[0] else .tuple us.toArray):=by
 match us with
 |[]=>rfl
 |[u]=>rfl
 |u::u'::us =>
  rw[dif_neg (by simp)];rfl
theorem qv:∀ (ps:List PK) (t:Nat),(bG t ps).Nodup/\∀ b∈bG t ps,B0+t<=b
 |[],t=>⟨A5,by simp[bG]⟩
 |pk::ps,t=>by
  obtain⟨h1,h2⟩:=qv ps (t+1);have h3:∀ b∈bG (t+1) ps,B0+t<=b:=λb hb=>by have:=h2 b hb;omega
  cases pk with
  |iop a =>
   refine⟨Ai.2 ⟨λhm=>?_,h1⟩,λb hb=>?_⟩
   ·have:=h2 _ hm;omega
   ·rcases AO.1 hb with rfl|hb
    ·exact BI _
    ·exact h3 b hb
  |_=>exact⟨h1,h3⟩
theorem zE {rs:List RK}(h:pb rs=true):rs.countP RK.isBox<=1:=by
 unfold pb at h;split at h
 ·simp[RK.isBox]
 ·rw[BN.2]
  ·exact Bb _
  ·intro r hr;rw[AX]at h;have:=h r hr;cases r <;> simp[RK.isV,RK.isBox]at this ⊢
theorem qw {β:Nat->Nat}:∀ {bs:List Nat},bs.Nodup->(∀ b∈bs,∀ b'∈bs,β b=β b'->b=b')->(bs.map β).Nodup
 |[],_,_=>A5
 |b::bs,hn,hi=>by
  rw[Ai]at hn;rw[AY,Ai];refine⟨λhm=>?_,qw hn.2 (λx hx y hy=>hi x (AF _ hx) y (AF _ hy))⟩;obtain⟨b',hb',e⟩:=AL.1 hm;have:=hi b' (AF _ hb') b (AG ..) e;exact hn.1 (by rw[<- this];exact hb')
theorem wm (hT:TOk P T){c:Ctr}(hrs:pb c.rs=true){vs:List Value}{bss:List (List Nat)}{fn:Func}{nt:Nat}(hV:ax (fw w ro c.ps vs bss nt)){x:ab c.ps}{pr:Nat->Prop}(hargs:cQ P w ro pr c.ps x vs bss)(hpl:c.ps.length<=nt){ex:Ex}{s1:St}{y:ak c.rs×aj c.ps}
  (hfin:dy T c.ps c.rs c.fresh fn.results.toList ex s1=some y) {a:Act} {w':World} (hr:Rel P (fw w ro c.ps vs bss nt) s1 a w') :
  (ex=.normal\/ex=.ret)/\∃ v,(results fn a.tmps).run P w'=.ok v w'/\Post c w ro vs bss y (.returned v) w':=by
 obtain⟨W,hr⟩:=hr;have hex:ex=.normal\/ex=.ret:=by
  cases ex with
  |normal=>exact .inl rfl
  |ret=>exact .inr rfl
  |exit id=>cases hfin
 refine⟨hex,?_⟩;have hfin:finR T c.ps c.rs c.fresh fn.results.toList s1=some y:=by
  rcases hex with rfl|rfl <;> exact hfin
 unfold finR at hfin;split at hfin
 ·rename_i yr yo hyr hyo;cases hchk:aX (yr.kill++yo.kill)&&dg (yr.frz++yo.frz) (yr.kill++yo.kill)&&(!c.fresh||!(yr.p||yo.p)) with
  |false=>rw[hchk]at hfin;cases hfin
  |true =>
   rw[hchk]at hfin;simp only[cond_true,AA]at hfin;subst hfin;simp only[AC]at hchk;obtain⟨⟨hdis,hap⟩,hfp⟩:=hchk;let N:Nat->Prop:=λk=>W.nw k\/∃ z∈yr.frz++yo.frz,k∈W.bs z.1 z.2
   have hG:∀ (p:Bool) (frz:List (Nat×Nat)),(p=true->(yr.p||yo.p)=true)->(∀ z∈frz,z∈yr.frz++yo.frz)->∀ k,bo (fw w ro c.ps vs bss nt) W p frz k->N k\/(c.fresh=false/\ro k):=by
    intro p frz hp hz k hk;rcases hk with (hk|⟨hq,hk⟩)|⟨z,hz',hk⟩
    ·exact .inl (.inl hk)
    ·refine .inr ⟨?_,hk⟩;rw[hp hq]at hfp;simpa using hfp
    ·exact .inl (.inr ⟨z,hz z hz',hk⟩)
   obtain⟨us,rbs,bx,r1,r2,r3,r4,r5,r6,r7⟩:=sy hV hT hr rfl c.rs fn.results.toList yr hyr (G:=λk=>N k\/(c.fresh=false/\ro k)) (hG yr.p yr.frz (by intro h;simp[h]) (λz hz=>AD _ hz));obtain⟨oss,o1,o2,o3,o4,o5⟩:=lA hV hr hV.nt c.ps x vs bss 0 yo hargs hyo (by rw[Ar];exact hpl) (λz hz=>hr.fixt z hz) (λz hz=>hr.fixb z hz) (G:=λk=>N k\/(c.fresh=false/\ro k)) (hG yo.p yo.frz (by intro h;simp[h]) (λz hz=>AE _ hz));have hkpl:∀ z∈yr.kill++yo.kill,aB s1 z:=λz hz=>(AB.1 hz).elim (r7 z) (o4 z)
   have hfpl:∀ z∈yr.frz++yo.frz,aB s1 z:=λz hz=>(AB.1 hz).elim (r6 z) (o3 z)
   have hfr:∀ k,k<w'.heap.size->¬ (fw w ro c.ps vs bss nt).prot k->oQ w w' bss.flatten k:=by
    intro k hk hp;refine⟨hk,?_⟩;by_cases hlt:k<w.heap.size
    ·right;apply Ac;intro hn;exact hp ⟨hlt,hn⟩
    ·exact .inl (by omega)
   have hNF:∀ k,N k->oQ w w' bss.flatten k:=by
    rintro k (hk|⟨z,hz,hk⟩)
    ·exact hfr k (hr.nwlt k hk).1 (hr.nwlt k hk).2
    ·obtain⟨l,h7,h8⟩:=hfpl z hz;exact hfr k (hr.own_lt h7 h8 k hk) (hr.ownb z.1 z.2 l h7 h8 k hk).2.1
   have hbxl:∀ b∈bx++bG 0 c.ps,live s1 b:=λb hb=>(AB.1 hb).elim (λhb=>(r4 b hb).1) (o5 b)
   have hbxn:(bx++bG 0 c.ps).Nodup:=by
    rw[Ao];refine⟨?_,(qv c.ps 0).1,λb hb b' hb' e=>?_⟩
    ·have:=zE hrs;rw[<- r5]at this
     match bx,this with
     |[],_=>exact A5
     |[b],_=>simp
    ·subst e;have:=A7.1 (r4 b hb).2 b hb';simp at this
   have hmapn:=qw (β:=W.β) hbxn (λb hb b' hb' e=>hr.inj b b' (hbxl b hb) (hbxl b' hb') e);have hcnt:∀ k,(oss.flatten++rbs.flatten).count k=(aU W (yr.kill++yo.kill)).count k+((bx++bG 0 c.ps).map W.β).count k:=λk=>by
    rw[AU,o2 k,r3 k,dp,AU,Az,AU];omega
   have hbn:=bz.1 (f9 hr hdis hkpl);have hcase:∀ k∈oss.flatten++rbs.flatten,(∃ z∈yr.kill++yo.kill,k∈W.bs z.1 z.2)\/∃ b,live s1 b/\W.β b=k:=λk hk=>by
    have h5:=AW.2 hk;rw[hcnt k]at h5;by_cases h6:k∈aU W (yr.kill++yo.kill)
    ·exact .inl (fC.1 h6)
    ·have:=A6.2 h6;obtain⟨b,hb,e⟩:=AL.1 (AW.1 (show 0<((bx++bG 0 c.ps).map W.β).count k by omega));exact .inr ⟨b,hbxl b hb,e⟩
   refine⟨_,sZ r1,_,us,N,oss,rbs,rfl,zD us,hr.size,hr.os,hr.tape,hr.output,λk h1 h2=>hr.keep k ⟨h1,h2⟩,hNF,o1,r2,bz.2 λk=>?_,λk hk=>?_⟩
   ·rw[hcnt k];have h5:=hbn k;have h6:=bz.1 hmapn k;by_cases h7:k∈(bx++bG 0 c.ps).map W.β
    ·have:(aU W (yr.kill++yo.kill)).count k=0:=A6.2 λhm=>by
      obtain⟨b,hb,e⟩:=AL.1 h7;obtain⟨z,hz,hkz⟩:=fC.1 hm;obtain⟨l,hl,ho⟩:=hkpl z hz;exact (hr.ownb z.1 z.2 l hl ho k hkz).2.2 b (hbxl b hb) e
     omega
    ·have:=A6.2 h7;omega
   ·rcases hcase k hk with ⟨z,hz,hkz⟩|⟨b,hb,e⟩
    ·obtain⟨l,hl,ho⟩:=hkpl z hz;have h9:=hr.ownb z.1 z.2 l hl ho k hkz;refine⟨hfr k (hr.own_lt hl ho k hkz) h9.2.1,?_⟩;rintro (hn|⟨z',hz',hkz'⟩)
     ·exact h9.1 hn
     ·obtain⟨l',hl',ho'⟩:=hfpl z' hz';obtain⟨e1,e2⟩:=hr.sep z.1 z.2 l z'.1 z'.2 l' hl ho hl' ho' k hkz hkz';exact mA hap z' hz' (by rw[show z'=z from Prod.ext e1.symm e2.symm];exact hz)
    ·subst e;have h9:=hr.box b hb;refine⟨hfr _ (hr.box_lt hb) h9.2,?_⟩;rintro (hn|⟨z',hz',hkz'⟩)
     ·exact h9.1 hn
     ·obtain⟨l',hl',ho'⟩:=hfpl z' hz';exact (hr.ownb z'.1 z'.2 l' hl' ho' _ hkz').2.2 b hb rfl
 ·cases hfin
theorem jd:∀ {ps:List PK} {vs:List Value} {t:Nat} {z:Nat×Value},z∈dI t ps vs->z.1∈fA t ps
 |[],_,_,_,h=>by simp[dI]at h
 |pk::ps,[],_,_,h=>by cases pk <;> simp[dI]at h
 |pk::ps,v::vs,t,z,h=>by
  cases pk <;> simp only[dI,fA,AO]at h ⊢ <;> first
   |exact jd h
   |exact h.imp (λe=>by rw[e]) jd
theorem je:∀ {ps:List PK} {vs:List Value} {t:Nat} {z:Nat×Nat},z∈dH t ps vs->z.1∈bG t ps
 |[],_,_,_,h=>by simp[dH]at h
 |pk::ps,[],_,_,h=>by cases pk <;> simp[dH]at h
 |pk::ps,v::vs,t,z,h=>by
  cases pk <;> simp only[dH,bG,AO]at h ⊢ <;> first
   |exact je h
   |exact h.imp (λe=>by rw[e]) je
theorem nT {f:FuncId}{fn:Func}{c:Code}(hf:P.funcs[f]?=some fn)(hn:(fn.name== "runtime.NumGoroutine")=false) (hb:fn.body=some c):kv P f:=by
 intro args w;have hn':fn.name≠ "runtime.NumGoroutine" := by simpa using hn
 simp[callFunc,hf,hn',hb]
theorem c7 (hT:TOk P T)(hΓ:∀ c∈Γ,af P c)(hmix:P.follows .mixedOrders=true){c:Ctr}{fn:Func}(hf:P.funcs[c.f]?=some fn)(hn:(fn.name== "runtime.NumGoroutine")=false)
  {L:List (Nat×List (Nat×List Coe))} {fuel:Nat} (hb:fn.body.isSome=true) (hden:∀ x,evF Γ T L fuel fn c.ps c.rs c.fresh x=c.den x):af P c:=by
 obtain⟨code,hb⟩:=Option.isSome_iff_exists.1 hb;refine⟨nT hf hn hb,λw ro x vs bss y hargs hro hnd hy=>?_⟩;rw[<- hden]at hy;unfold evF at hy;simp only[hb]at hy;cases hchk:dr fn.ntmps (fA 0 c.ps) code&&BK c.ps.length fn.ntmps&&BK fn.ntmps GH&&pb c.rs&&c8 L (bG 0 c.ps) code with
 |false=>simp[hchk]at hy
 |true =>
  simp only[hchk,cond_true]at hy;simp only[AC]at hchk;obtain⟨⟨⟨⟨h1,h2⟩,h3⟩,h4⟩,h5⟩:=hchk;have h2:=Ad h2;have h3:=Ad h3;have hV:ax (fw w ro c.ps vs bss fn.ntmps):=⟨λk hk=>hro k hk,h3⟩;have hrel:=tQ (P:=P) (ro:=ro) hargs hnd h2 h3;refine calls_of_wp hf hb ?_;rw[BW];refine qT hV hT hΓ hmix (λz hz=>je hz) (nt:=fn.ntmps) (fix:=fA 0 c.ps) rfl (λz hz=>jd hz) code h1 h5 _ _ y _ hy (λex s1 hfin a' w' hr=>?_) _ _ hrel;obtain⟨hex,v,hrun,hpost⟩:=wm hT h4 hV hargs h2 hfin hr;have hdf:a'.defers=[]:=by obtain⟨W,hr⟩:=hr;exact hr.df
  rcases hex with rfl|rfl <;> exact⟨hdf,v,hrun,hpost⟩
end
section
variable {P:Program}
def szB (P:Program)(t:TypeId)(n:Nat):Bool :=
 match P.info? t with
 |some i=>AJ i.size n
 |none=>false
theorem fi {t:TypeId}{n:Nat}(h:szB P t n=true):bN P t n:=by
 unfold szB at h;unfold bN;split at h
 ·rename_i i hi;rw[hi];simp only[Aa];rw[AH h]
 ·cases h
def sA (P:Program)(t:TypeId)(agg:Bool):Bool :=
 match P.underlying t with
 |some (.struct _)|some (.array _ _)=>agg
 |some _=>!agg
 |none=>false
theorem pJ {t:TypeId}{agg:Bool}(h:sA P t agg=true):(P.underlying t).map (λd=>match d with|.struct _|.array _ _=>true|_=>false)=some agg:=by
 unfold sA at h;split at h
 ·rename_i hu;rw[hu];simp[h]
 ·rename_i hu;rw[hu];simp[h]
 ·rename_i d h1 h2 hu;rw[hu];simp only[Aa,AA];cases agg with
  |true=>cases h
  |false =>
   cases d <;> first|rfl|(exact absurd hu (h1 _))|(exact absurd hu (h2 _ _))
 ·cases h
theorem yJ {t:TypeId}{agg:Bool}(h:(P.underlying t).map (λd=>match d with|.struct _|.array _ _=>true|_=>false)=some agg)(w:World):(isAgg t).run P w=.ok agg w:=by
 unfold isAgg;cases hd':P.underlying t with
 |none=>simp[hd']at h
 |some dd =>
  rw[hd']at h;simp only[Aa,AA]at h;subst h;rw[Aw,run_underlying hd' w];cases dd <;> rfl
def kJ (P:Program)(f:Field)(off:Nat)(b:Ty):Bool:=(f.name != "_")&&AJ f.offset off&&szB P f.type b.cells&&sA P f.type b.isAgg
def eqF (P:Program)(g:Ty->TypeId->Bool):List Field->Nat->Ty->Bool
 |[],_,_=>false
 |[f],off,b=>kJ P f off b&&g b f.type
 |f::fs,off,.pair b c=>kJ P f off b&&g b f.type&&eqF P g fs (off+b.cells) c
 |_,_,_=>false
def eqT (P:Program):Nat->Ty->TypeId->Bool
 |0,_,_=>false
 |n+1,a,t=>match a with
  |.int k=>(match P.underlying t with|some (.int k')=>decide (k'=k)|_=>false)
  |.bool=>(match P.underlying t with|some .bool=>true|_=>false)
  |.str=>(match P.underlying t with|some .string=>true|_=>false)
  |.pair b c=>(match P.underlying t with|some (.struct fs)=>!P.stoodInHeld t&&eqF P (eqT P n) fs.toList 0 (.pair b c)|_=>false)
  |_=>false
theorem xt:∀ (b:Ty),b.isAgg=false->b.cells=1
 |.int _,_=>rfl
 |.bool,_=>rfl
 |.str,_=>rfl
 |.list _ _ _,_=>rfl
 |.hdr,_=>rfl
 |.unit,h=>by cases h
 |.pair _ _,h=>by cases h
theorem lB {f:Field}{off:Nat}{b:Ty}(h:kJ P f off b=true){xs p c s:List Value}(hx:xs=p++c++s)(hp:p.length=off)(hc:c.length=b.cells)(w:World) :
  ∃ v,(part f.type xs.toArray f.offset).run P w=.ok v w/\cX b.isAgg v c:=by
 unfold kJ at h;simp only[AC]at h;obtain⟨⟨⟨_,h2⟩,h3⟩,h4⟩:=h;have h2:=AH h2;have hagg:=yJ (pJ h4) w;have hsz:=da (fi h3) w;have hdrop:(xs.drop off).take b.cells=c:=by
  rw[hx,Ae,<- hp,List.drop_left,<- hc,List.take_left]
 cases hb:b.isAgg with
 |true =>
  rw[hb]at hagg;refine⟨.agg c.toArray,?_,rfl⟩;have e:xs.toArray.extract off (off+b.cells)=c.toArray:=by
   rw[List.extract_toArray,List.extract_eq_take_drop,Nat.add_sub_cancel_left,hdrop]
  simp only[part,Aw,hagg,Ap,if_true,hsz,BV,h2,e]
 |false =>
  rw[hb]at hagg;have h1:=xt b hb;rw[h1]at hc
  match c,hc with
  |[v],_ =>
   refine⟨v,?_,rfl⟩;have e:xs.toArray[off]?=some v:=by
    simp only[List.getElem?_toArray];rw[hx,Ae,AZ (by omega)];simp[hp]
   simp only[part,Aw,hagg,Ap,A1,if_false,h2,e,BV]
def xK (P:Program)(d:Nat)(b:Ty)(t:TypeId):Prop:=∀ (w:World) (G:Nat->Prop) (x y:b.den) (vx vy:Value) (cx cy:List Value),cX b.isAgg vx cx->Rd w G b x cx->cX b.isAgg vy cy->Rd w G b y cy ->
 (Op.equalIn d t vx vy).run P w=.ok (b.eqv x y) w
theorem wn {d:Nat}{g:Ty->TypeId->Bool}(hg:∀ b t,g b t=true->xK P d b t):∀ (fs:List Field) (off:Nat) (b:Ty),eqF P g fs off b=true->∀ (w:World) (G:Nat->Prop) (x y:b.den) (px cx py cy:List Value),
  px.length=off->py.length=off->Rd w G b x cx->Rd w G b y cy->(Op.eqFields d (px++cx).toArray (py++cy).toArray fs).run P w=.ok (b.eqv x y) w
 |[],_,_,h=>by simp[eqF]at h
 |[f],off,b,h=>by
  intro w G x y px cx py cy hpx hpy hx hy;simp only[eqF,AC]at h;obtain⟨v1,h1,h2⟩:=lB h.1 (xs:=px++cx) (p:=px) (c:=cx) (s:=[]) (by simp) hpx hx.len w;obtain⟨v2,h3,h4⟩:=lB h.1 (xs:=py++cy) (p:=py) (c:=cy) (s:=[]) (by simp) hpy hy.len w;have h5:=hg b f.type h.2 w G x y v1 v2 cx cy h2 hx h4 hy;have hn:f.name≠ "_" := by
   have:=h.1;unfold kJ at this;simp only[AC]at this;simpa using this.1.1.1
  simp only[Op.eqFields,if_pos hn,Aw,h1,h3,h5,Ap];cases b.eqv x y <;> simp
 |f::f'::fs,off,.pair b c,h=>by
  intro w G x y px cx py cy hpx hpy hx hy;simp only[eqF,AC]at h;obtain⟨⟨hf,hgb⟩,hrest⟩:=h;obtain⟨c1,c2,rfl,hx1,hx2⟩:=hx;obtain⟨d1,d2,rfl,hy1,hy2⟩:=hy;obtain⟨v1,h1,h2⟩:=lB hf (xs:=px++(c1++c2)) (p:=px) (c:=c1) (s:=c2) (by simp) hpx hx1.len w;obtain⟨v2,h3,h4⟩:=lB hf (xs:=py++(d1++d2)) (p:=py) (c:=d1) (s:=d2) (by simp) hpy hy1.len w;have h5:=hg b f.type hgb w G x.1 y.1 v1 v2 c1 d1 h2 hx1 h4 hy1;have h6:=wn hg (f'::fs) (off+b.cells) c hrest w G x.2 y.2 (px++c1) c2 (py++d1) d2 (by simp[hpx,hx1.len]) (by simp[hpy,hy1.len]) hx2 hy2;rw[Ae,Ae]at h6;have hn:f.name≠ "_" := by
   unfold kJ at hf;simp only[AC]at hf;simpa using hf.1.1.1
  rw[Op.eqFields];simp only[if_pos hn,Aw,h1,h3,h5,Ap];show _=Result.ok (b.eqv x.1 y.1&&c.eqv x.2 y.2) w;cases b.eqv x.1 y.1 with
  |false=>simp
  |true=>simpa using h6
 |f::f'::fs,off,.int _,h=>by simp[eqF]at h
 |f::f'::fs,off,.bool,h=>by simp[eqF]at h
 |f::f'::fs,off,.str,h=>by simp[eqF]at h
 |f::f'::fs,off,.unit,h=>by simp[eqF]at h
 |f::f'::fs,off,.list _ _ _,h=>by simp[eqF]at h
 |f::f'::fs,off,.hdr,h=>by simp[eqF]at h
theorem qx (x y:ByteArray):(x==y)=decide (x=y):=by
 rw[beq_toListBytes];by_cases h:x=y
 ·subst h;simp
 ·rw[decide_eq_false h];cases hb:(x.toList==y.toList) with
  |false=>rfl
  |true =>
   exfalso;apply h;have:=eq_of_beq hb;rw[BO,BO]at this;apply ByteArray.ext;exact Array.ext' this
theorem wo:∀ (n:Nat) (a:Ty) (t:TypeId),eqT P n a t=true->∀ d,n<=d->xK P d a t
 |0,_,_,h=>by simp[eqT]at h
 |n+1,a,t,h=>by
  intro d hd;obtain⟨d,rfl⟩:∃ d',d=d'+1:=⟨d-1,by omega⟩;intro w G x y vx vy cx cy hvx hx hvy hy;cases a with
  |int k =>
   simp only[eqT]at h;split at h
   ·rename_i k' hu;have hk:=of_decide_eq_true h;subst hk;have hx:cx=[.int k' x]:=hx;have hy:cy=[.int k' y]:=hy;have hvx:cx=[vx]:=hvx;have hvy:cy=[vy]:=hvy;rw[hx]at hvx;rw[hy]at hvy;simp at hvx hvy;subst hvx;subst hvy;simp[Op.equalIn,run_underlying hu,Ty.eqv];rfl
   ·cases h
  |bool =>
   simp only[eqT]at h;split at h
   ·rename_i hu;have hx:cx=[.bool x]:=hx;have hy:cy=[.bool y]:=hy;have hvx:cx=[vx]:=hvx;have hvy:cy=[vy]:=hvy;rw[hx]at hvx;rw[hy]at hvy;simp at hvx hvy;subst hvx;subst hvy;simp[Op.equalIn,run_underlying hu,Ty.eqv]
   ·cases h
  |str =>
   simp only[eqT]at h;split at h
   ·rename_i hu;have hx:cx=[.string x]:=hx;have hy:cy=[.string y]:=hy;have hvx:cx=[vx]:=hvx;have hvy:cy=[vy]:=hvy;rw[hx]at hvx;rw[hy]at hvy;simp at hvx hvy;subst hvx;subst hvy;have:=qx x y;simp[Op.equalIn,run_underlying hu,Ty.eqv,this]
   ·cases h
  |pair b c =>
   simp only[eqT]at h;split at h
   ·rename_i fs hu;simp only[AC,Al]at h;have hf:P.fieldsOf t=fs:=by simp[Program.fieldsOf,hu]
    have hvx:vx=.agg cx.toArray:=hvx;have hvy:vy=.agg cy.toArray:=hvy;subst hvx;subst hvy;rw[run_equalIn_struct (P:=P) w d t _ _ (by rw[hf];exact hu) h.1,hf];have:=wn (P:=P) (λb t hb=>wo n b t hb d (by omega)) fs.toList 0 (.pair b c) h.2 w G x y [] cx [] cy rfl rfl hx hy;simpa using this
   ·cases h
  |unit=>simp[eqT]at h
  |hdr=>simp[eqT]at h
  |list m E e=>simp[eqT]at h
theorem yK {t:TypeId}{a:Ty}(h:eqT P 64 a t=true)(ha:a.isAgg=true):EqAt P t a:=by
 intro _ w G x y cx cy hx hy;have:=wo 64 a t h Op.maxDepth (by decide) w G x y (.agg cx.toArray) (.agg cy.toArray) cx cy (by rw[ha];rfl) hx (by rw[ha];rfl) hy;exact this
def uU:Value->Value->Bool
 |.int k n,.int k' n'=>decide (k=k')&&decide (n=n')
 |.bool b,.bool b'=>b==b'
 |.string s,.string s'=>decide (s.toList=s'.toList)
 |.slice none 0 0,.slice none 0 0=>true
 |.pointer none,.pointer none=>true
 |.nilFunc,.nilFunc=>true
 |_,_=>false
def j7:List Value->List Value->Bool
 |[],[]=>true
 |v::vs,u::us=>uU v u&&j7 vs us
 |_,_=>false
theorem xu {v u:Value}(h:uU v u=true):v=u:=by
 unfold uU at h;split at h
 ·simp only[AC,decide_eq_true_eq]at h;rw[h.1,h.2]
 ·rw[eq_of_beq h]
 ·rename_i s s';have:s=s':=by
   have h1:=qx s s';rw[beq_toListBytes,of_decide_eq_true h]at h1;simpa using h1.symm
  rw[this]
 ·rfl
 ·rfl
 ·rfl
 ·cases h
theorem lC:∀ {vs us:List Value},j7 vs us=true->vs=us
 |[],[],_=>rfl
 |v::vs,u::us,h=>by
  simp only[j7,AC]at h;rw[xu h.1,lC h.2]
 |[],_::_,h=>by simp[j7]at h
 |_::_,[],h=>by simp[j7]at h
def zB (P:Program)(t:TypeId)(agg:Bool)(cs:List Value):Bool :=
 match P.info? t with
 |some i=>match i.zero with
  |some (.agg xs)=>agg&&j7 xs.toList cs
  |some v=>!agg&&j7 [v] cs
  |none=>false
 |none=>false
theorem wq {t:TypeId}{cs:List Value}(h:zB P t true cs=true):dD P t (.agg cs.toArray):=by
 unfold zB at h;unfold dD;split at h
 ·rename_i i hi;rw[hi];split at h
  ·rename_i xs hz;simp only[BQ]at h;rw[Aa,hz,<- lC h,Array.toArray_toList]
  ·cases h
  ·cases h
 ·cases h
theorem kK {t:TypeId}{v:Value}(h:zB P t false [v]=true):dD P t v:=by
 unfold zB at h;unfold dD;split at h
 ·rename_i i hi;rw[hi];split at h
  ·cases h
  ·rename_i u _ hz;simp only[Bg,BQ]at h;have:=lC h;simp only[BE,and_true]at this;rw[Aa,hz,this]
  ·cases h
 ·cases h
def jm (P:Program)(n:Nat):List Field->List (Nat×Nat×Bool)->Bool
 |[],[]=>true
 |f::fs,(off,k,agg)::xs=>AJ f.offset off&&szB P f.type k&&sA P f.type agg&&BD 0 k&&BK (off+k) n&&(agg||AJ k 1)&&jm P n fs xs
 |_,_=>false
def isU8:Ty->Bool
 |.int .u8=>true
 |_=>false
def u8B (P:Program)(E:TypeId):Bool :=
 match P.underlying E with
 |some (.int .u8)=>true
 |_=>false
def tiB (P:Program)(t:TypeId):TI->Bool
 |.int k=>(match P.underlying t with|some (.int k')=>decide (k'=k)|_=>false)&&szB P t 1&&zB P t false [.int k 0]
 |.bool=>(match P.underlying t with|some .bool=>true|_=>false)&&szB P t 1&&zB P t false [.bool false]
 |.str=>(match P.underlying t with|some .string=>true|_=>false)&&szB P t 1&&zB P t false [.string ByteArray.empty]
 |.slice E e bytes=>(match P.underlying t with|some (.slice E')=>AJ E' E|_=>false)&&szB P t 1&&zB P t false [.slice none 0 0]&&BD 0 e.cells&&BD 0 bytes &&
  szB P E e.cells&&(match P.info? E with | some i=>AJ i.bytes bytes&&(match i.zero with | some z=>j7 z.cells.toList (zeroCells e) | none=>false) | none=>false)&&(!isU8 e||u8B P E)
 |.arr e n=>(match P.underlying t with|some (.array m E)=>AJ m n&&szB P E e.cells&&sA P E e.isAgg|_=>false)&&BD 0 e.cells&&szB P t (n*e.cells)&&zB P t true (List.replicate n (zeroCells e)).flatten
 |.struct a flds=>(match P.underlying t with | some (.struct fs)=>jm P a.cells fs.toList flds | _=>false)&&szB P t a.cells&&zB P t true (zeroCells a)&&a.isAgg&&(!a.flat||eqT P 64 a t)&&!P.eqGuardType P.depth t
 |.ptr=>(match P.underlying t with|some (.pointer _)=>true|_=>false)&&szB P t 1&&zB P t false [.pointer none]
 |.fn=>(match P.underlying t with|some (.func _ _ _)=>true|_=>false)&&szB P t 1&&zB P t false [.nilFunc]
 |.none=>true
theorem o8 {n:Nat}:∀ {fs:List Field} {xs:List (Nat×Nat×Bool)},jm P n fs xs=true ->
  fs.mapM (λf=>(P.info? f.type).map λi=>(f.offset,i.size))=some (xs.map λx=>(x.1,x.2.1)) /\
  ∀ (i off k:Nat) (agg:Bool),xs[i]?=some (off,k,agg)->(agg=false->k=1)/\∃ f:Field,fs[i]?=some f/\f.offset=off/\0<k/\off+k<=n/\bN P f.type k /\
   (P.underlying f.type).map (λd=>match d with|.struct _|.array _ _=>true|_=>false)=some agg
 |[],[],_=>⟨rfl,λi off k agg h=>by simp at h⟩
 |[],_::_,h=>by simp[jm]at h
 |_::_,[],h=>by simp[jm]at h
 |f::fs,(off,k,agg)::xs,h=>by
  simp only[jm,AC,Ay]at h;obtain⟨⟨⟨⟨⟨⟨h1,h2⟩,h3⟩,h4⟩,h5⟩,h6⟩,h7⟩:=h;have h1:=AH h1;have hsz:=fi h2;obtain⟨h8,h9⟩:=o8 h7;constructor
  ·unfold bN at hsz;cases hi:P.info? f.type with
   |none=>rw[hi]at hsz;cases hsz
   |some i =>
    rw[hi]at hsz;simp only[Aa,AA]at hsz;simp[BJ,hi,h8,hsz,h1]
  ·intro i off' k' agg' hx;cases i with
   |zero =>
    simp at hx;obtain⟨rfl,rfl,rfl⟩:=hx;refine⟨λha=>?_,f,rfl,h1,by simpa[Au]using h4,Ad h5,hsz,pJ h3⟩;rcases h6 with h6|h6
    ·rw[ha]at h6;cases h6
    ·exact AH h6
   |succ i =>
    obtain⟨q1,f',q2,q3⟩:=h9 i off' k' agg' (by simpa using hx);exact⟨q1,f',by simpa using q2,q3⟩
theorem zF {t:TypeId}{i:TI}(h:tiB P t i=true):ni P t i:=by
 cases i with
 |none=>trivial
 |int k =>
  simp only[tiB,AC]at h;obtain⟨⟨h1,h2⟩,h3⟩:=h;split at h1
  ·rename_i k' hu;rw[of_decide_eq_true h1]at hu;exact⟨hu,fi h2,kK h3⟩
  ·cases h1
 |bool =>
  simp only[tiB,AC]at h;obtain⟨⟨h1,h2⟩,h3⟩:=h;split at h1
  ·rename_i hu;exact⟨hu,fi h2,kK h3⟩
  ·cases h1
 |str =>
  simp only[tiB,AC]at h;obtain⟨⟨h1,h2⟩,h3⟩:=h;split at h1
  ·rename_i hu;exact⟨hu,fi h2,kK h3⟩
  ·cases h1
 |ptr =>
  simp only[tiB,AC]at h;obtain⟨⟨h1,h2⟩,h3⟩:=h;split at h1
  ·rename_i e hu;exact⟨⟨e,hu⟩,fi h2,kK h3⟩
  ·cases h1
 |fn =>
  simp only[tiB,AC]at h;obtain⟨⟨h1,h2⟩,h3⟩:=h;split at h1
  ·rename_i x y z hu;exact⟨⟨x,y,z,hu⟩,fi h2,kK h3⟩
  ·cases h1
 |slice E e bytes =>
  simp only[tiB,AC]at h;obtain⟨⟨⟨⟨⟨⟨⟨h1,h2⟩,h3⟩,h4⟩,h5⟩,h6⟩,h7⟩,h8u⟩:=h;have hu8:e=.int .u8->P.underlying E=some (.int .u8):=by
   intro he;subst he;have h8u:u8B P E=true:=by simpa[isU8]using h8u
   unfold u8B at h8u;split at h8u
   ·rename_i hq;exact hq
   ·cases h8u
  split at h1
  ·rename_i E' hu;rw[AH h1]at hu;split at h7
   ·rename_i ti hti;simp only[AC]at h7;obtain⟨h8,h9⟩:=h7;split at h9
    ·rename_i z hz;have hsz:=fi h6;unfold bN at hsz;rw[hti]at hsz;simp only[Aa,AA]at hsz;exact⟨hu,fi h2,kK h3,by simpa[Au]using h4,⟨by simpa[Au]using h5,hu8⟩,ti,z,hti,hsz,AH h8,hz,lC h9⟩
    ·cases h9
   ·cases h7
  ·cases h1
 |arr e n =>
  simp only[tiB,AC]at h;obtain⟨⟨⟨h1,h2⟩,h3⟩,h4⟩:=h;split at h1
  ·rename_i m E hu;simp only[AC]at h1;obtain⟨⟨h5,h6⟩,h7⟩:=h1;rw[AH h5]at hu;exact⟨⟨E,hu,fi h6,pJ h7⟩,by simpa[Au]using h2,fi h3,wq h4⟩
  ·cases h1
 |struct a flds =>
  simp only[tiB,AC,Ay,Al]at h;obtain⟨⟨⟨⟨⟨h1,h2⟩,h3⟩,h4⟩,h5⟩,h6⟩:=h;split at h1
  ·rename_i fs hu;obtain⟨h7,h8⟩:=o8 h1;refine⟨⟨fs,hu,h7,λi off n agg hx=>?_⟩,fi h2,wq h3,?_,h6⟩
   ·obtain⟨q1,f,q2,q3⟩:=h8 i off n agg hx;exact⟨q1,f,by simpa using q2,q3⟩
   ·intro hf;rcases h5 with h5|h5
    ·rw[hf]at h5;cases h5
    ·exact yK h5 h4 hf
  ·cases h1
def tlB (P:Program):List (TypeId×TI)->Bool
 |[]=>true
 |x::l=>tiB P x.1 x.2&&tlB P l
theorem jG:∀ {l:List (TypeId×TI)},tlB P l=true->TOk P (gS l):=by
 intro l h;refine rg ?_;induction l with
 |nil=>simp
 |cons x l ih =>
  simp only[tlB,AC]at h;intro y hy;rcases AO.1 hy with rfl|hy
  ·exact zF h.1
  ·exact ih h.2 y hy
end
section
variable {P:Program} {T:TypeId->TI}
theorem qy (hT:TOk P T)(hmix:P.follows .mixedOrders=true){f:FuncId}{fn:Func}(hf:P.funcs[f]?=some fn)(hn:(fn.name== "runtime.NumGoroutine")=false) {E:TypeId} {e:Ty} {rs:List RK} {fresh:Bool}
  {den:ab [PK.rd (.list false E e)]->Option (ak rs×aj [PK.rd (.list false E e)])} {R0 A B C:Code} {rid:Nat} {o0 o1:Oper} {d0 q t t':Nat} {x0:Operand} {L:List (Nat×List (Nat×List Coe))} {K:Nat}
  (hb:fn.body=some (.seq R0 (.seq (.seq (.region rid #[o0,o1] false) (.cond (.tmp q) A B)) C))) (hg0:o0.guard=none) (hop0:o0.op=.move x0) (hop1:o1.op=.binOp .eql t (.tmp d0) (.const (.slice none 0 0)) t') (hg1:o1.guard=none) (hd1:o1.dst=some q)
  {E':TypeId} (ht:P.underlying t=some (.slice E'))
  (hchk:(dr fn.ntmps [] (.seq R0 (.seq (.seq (.region rid #[o0,o1] false) (.cond (.tmp q) A B)) C))&&BK 1 fn.ntmps&&BK fn.ntmps GH&&pb rs&&c8 L [] (.seq R0 (.seq (.seq (.region rid #[o0,o1] false) (.cond (.tmp q) A B)) C)))=true)
  {S1:ab [PK.rd (.list false E e)]->St}
  (hpre:∀ x,evK [] T L K R0 (az (di 0 [PK.rd (.list false E e)] x)) (qX (λs _=>act [] T o0 s (λU=>some (ac U s))) (λ_ _=>none))=some (S1 x))
  (hleaf:∀ x,one (S1 x) (.tmp d0)=.ro true E e x.1)
  (hF:∀ x,evK [] T L K (.seq (.cond (.tmp q) A B) C) (ac (cj (S1 x) [] q .one [.bool false]) (S1 x)) (dy T [PK.rd (.list false E e)] rs fresh fn.results.toList)=den x)
  (hTr:∀ x y,x.1=[]->den x=some y->evK [] T L K (.seq (.cond (.tmp q) A B) C) (ac (cj (S1 x) [] q .one [.bool true]) (S1 x)) (dy T [PK.rd (.list false E e)] rs fresh fn.results.toList)=some y) :
  af P ⟨f,[PK.rd (.list false E e)],rs,fresh,den⟩:=by
 refine⟨nT hf hn hb,λw ro x vs bss y hargs hro hnd hy=>?_⟩;simp only[AC]at hchk;obtain⟨⟨⟨⟨h1,h2⟩,h3⟩,h4⟩,h5⟩:=hchk;have h2:=Ad h2;have h3:=Ad h3;have hV:ax (fw w ro [PK.rd (.list false E e)] vs bss fn.ntmps):=⟨λk hk=>hro k hk,h3⟩;have hrel:=tQ (P:=P) (ro:=ro) hargs hnd h2 h3;have hnoΓ:∀ c∈([]:List Ctr),af P c:=by simp
 have hfb:∀ z∈(fw w ro [PK.rd (.list false E e)] vs bss fn.ntmps).fixb,z.1∈([]:List Nat):=λz hz=>je (ps:=[PK.rd (.list false E e)]) hz
 have hft:∀ z∈(fw w ro [PK.rd (.list false E e)] vs bss fn.ntmps).fixt,z.1∈([]:List Nat):=λz hz=>jd (ps:=[PK.rd (.list false E e)]) hz
 simp only[dr,AC]at h1;simp only[c8,AC]at h5;obtain⟨hc0,⟨hcr,hcc⟩,hcC⟩:=h1;obtain⟨hl0,⟨_,hlc⟩,hlC⟩:=h5;refine calls_of_wp hf hb ?_;rw[BW];generalize hQd:bodyPost P fn (Post ⟨f,[PK.rd (.list false E e)],rs,fresh,den⟩ w ro vs bss y)=Q;have hQ:∀ ex s1,dy T [PK.rd (.list false E e)] rs fresh fn.results.toList ex s1=some y->∀ a w',Rel P (fw w ro [PK.rd (.list false E e)] vs bss fn.ntmps) s1 a w'->Q (exOf ex) a w':=by
  intro ex s1 hfin a' w' hr;obtain⟨hex,v,hrun,hpost⟩:=wm (c:=⟨f,[PK.rd (.list false E e)],rs,fresh,den⟩) hT h4 hV hargs h2 hfin hr;have hdf:a'.defers=[]:=by obtain⟨W,hr⟩:=hr;exact hr.df
  subst hQd;rcases hex with rfl|rfl <;> exact⟨hdf,v,hrun,hpost⟩
 have hrest:∀ (b:Bool),evK [] T L K (.seq (.cond (.tmp q) A B) C) (ac (cj (S1 x) [] q .one [.bool b]) (S1 x)) (dy T [PK.rd (.list false E e)] rs fresh fn.results.toList)=some y ->
   ∀ a w',Rel P (fw w ro [PK.rd (.list false E e)] vs bss fn.ntmps) (ac (cj (S1 x) [] q .one [.bool b]) (S1 x)) a w'->(Code.cond (.tmp q) A B).wp P (Exit.then (C.wp P Q) Q) a w':=by
  intro b hev a w' hr;refine qT hV hT hnoΓ hmix hfb (nt:=fn.ntmps) (fix:=[]) rfl hft (.cond (.tmp q) A B) (by simp only[dr,AC];exact hcc) (by simp only[c8,AC];exact hlc) _ _ y _ hev (λex s1 h6 a w' hr=>?_) a w' hr;cases ex with
  |normal=>exact qT hV hT hnoΓ hmix hfb (nt:=fn.ntmps) (fix:=[]) rfl hft C hcC hlC s1 _ y Q h6 hQ a w' hr
  |exit id'=>exact hQ (.exit id') s1 h6 a w' hr
  |ret=>exact hQ .ret s1 h6 a w' hr
 have hopk:∀ (i:Nat) (o:Oper),(#[o0,o1]:Array Oper)[i]?=some o->ku fn.ntmps [] #[o0,o1] o=true:=λi o hi=>by
  simp only[AX]at hcr;exact hcr o (by simpa using BG hi)
 refine wp_seq (qT hV hT hnoΓ hmix hfb (nt:=fn.ntmps) (fix:=[]) rfl hft R0 hc0 hl0 _ _ (S1 x) _ (hpre x) (λex s0 h6 a w' hr=>?_) _ _ hrel);cases ex with
 |exit id'=>cases h6
 |ret=>cases h6
 |normal =>
  have h6:act [] T o0 s0 (λU=>some (ac U s0))=some (S1 x):=h6;rw[sf]at h6;obtain⟨U,hU,h6⟩:=Af.1 h6;simp only[AA]at h6;refine wp_seq (wp_seq (wp_region ?_));have hrange:Bf (#[o0,o1]:Array Oper).size=[0,1]:=rfl;rw[hrange,wpOps_cons];refine uR hV hT hnoΓ (ops:=#[o0,o1]) (i:=0) (o:=o0) rfl (ly rfl hft (hopk 0 o0 rfl)) (λj want hg=>by rw[hg0]at hg;cases hg) (U:=U) (by unfold lv;rw[hg0];exact hU) hr (λa1 w1 hr1=>?_);rw[h6]at hr1;rw[wpOps_cons];obtain⟨W1,hr1⟩:=hr1;have hok1:bL (fw w ro [PK.rd (.list false E e)] vs bss fn.ntmps) o1:=ly rfl hft (hopk 1 o1 rfl);obtain⟨h7,_,_,_,_⟩:=bu hr1 (.tmp d0) (by rw[hleaf x];simp);rw[hleaf x]at h7;obtain⟨A',cap,hv,_,hel⟩:=h7;have hv:a1.eval (.tmp d0)=.slice A' x.1.length cap:=by simpa using hv
  have hlen:A'=none->x.1=[]:=λhA=>by
   cases hx:x.1 with
   |nil=>rfl
   |cons y ys =>
    obtain⟨g,o,hA',_⟩:=hel (by rw[hx];simp);rw[hA]at hA';cases hA'
  have hev:evK [] T L K (.seq (.cond (.tmp q) A B) C) (ac (cj (S1 x) [] q .one [.bool A'.isNone]) (S1 x)) (dy T [PK.rd (.list false E e)] rs fresh fn.results.toList)=some y:=by
   cases hA:A' with
   |none=>exact hTr x y (hlen hA) hy
   |some ad=>exact (hF x).trans hy
  have hrun:(execOp a1.eval o1).run P w1=.ok (.value (.bool A'.isNone)) w1:=by
   have:=Lib.run_eql_slice_nil (P:=P) w1 t E' A' x.1.length cap 0 0 ht;have hc:a1.eval (.const (.slice none 0 0))=.slice none 0 0:=rfl;simp[execOp,hop1,hv,hc,eqGuard,this]
  unfold wpOp;have hi:(#[o0,o1]:Array Oper)[1]?=some o1:=rfl;simp only[hi];have hw:Region.wanted o1 (yielded #[o0,o1] a1.tmps)=true:=by simp[Region.wanted,hg1]
  rw[if_pos hw];refine .inl (dA hrun ?_);rw[hd1];show Exit.then _ _ _ _ _;exact hrest _ hev _ _ (hr1.putLs hV q (hok1 q hd1).1 (hok1 q hd1).2 _ .one [.bool A'.isNone] (.bool A'.isNone) [.bool A'.isNone] (Aq _) rfl ⟨⟨rfl,id,rfl⟩,trivial⟩)
end
open Go.ChangeShapes Go.WideShapes
section
variable {H:Type} {enc:TypeId×Value->H} {P:Program}
theorem lF (hl:laidOutB P=true){W W':World}{sp:Nat->Bool}:∀ {ts:List TypeId} {vs:List Value} {ds:List (DataW H)} {ps:List MemPlace},(∀ t∈ts,P.readableRec t=true/\t<P.types.size) ->
  DataW.TrodAll enc P W 0 (λ_=>true) true ts vs ds ps->(∀ x∈ps,W.sameAt W' x)->(∀ x∈ps,sp x.block=true)->DataW.TrodAll enc P W' 0 sp true ts vs ds ps
 |[],[],[],_,_,h,_,_=>h
 |[],[],_::_,_,_,h,_,_=>h.elim
 |[],_::_,_,_,_,h,_,_=>h.elim
 |_::_,[],_,_,_,h,_,_=>h.elim
 |_::_,_::_,[],_,_,h,_,_=>h.elim
 |t::ts,v::vs,d::ds,ps,ht,⟨p,q,h1,h2,e⟩,hs,hsp=>by
  subst e;refine⟨p,q,WideElems.Trod_stays hl (ht t (AG ..)).1 (ht t (AG ..)).2 h1 (λx hx=>hs x (AD _ hx)) (λx hx=>hsp x (AD _ hx)),
   lF hl (λt' h'=>ht t' (AF _ h')) h2 (λx hx=>hs x (AE _ hx)) (λx hx=>hsp x (AE _ hx)),rfl⟩
theorem qE (hl:laidOutB P=true){f:Func}{s:ChangeSpec}{apart fresh handsOn again:Bool}{W W':World}{args:Array Value}{ds gs:List (DataW H)}{before:List MemPlace}
  (hW:DataW.Whole enc P f.params.toList s.vars apart W args.toList ds gs before) (hvars:s.vars=[]) (hb:Below W.heap.size W W') (hread:∀ t∈f.params.toList,P.readableRec t=true/\t<P.types.size)
  {tb:TypeId} (hrt:f.resultTypes=#[tb]) (hbool:P.underlying tb=some .bool) (hres:(s.fn H (ds++gs)).results=[.lit (.bool true)]) (hargs:(s.fn H (ds++gs)).args=ds) (hvs:(s.fn H (ds++gs)).vars=[]) :
  s.post enc P f apart fresh handsOn again W args (.bool true) W':=by
 have hlt:∀ p∈before,p.block<W.heap.size:=λp hp=>by simpa using hW.lt p hp
 have hW':=hW;obtain⟨p,q,hA,hV,e,hz,hn⟩:=hW;rw[hvars]at hV;obtain⟨rfl,rfl⟩:=trodVars_none hV;simp only[List.append_nil]at e;subst e;have hsame:∀ x∈before,W.sameAt W' x:=λx hx=>hb.same (hlt x hx)
 have hrl:(Value.bool true).resultList f.resultTypes.size=[.bool true]:=by rw[hrt];rfl
 have hr:∀ (b:Nat) (sp:Nat->Bool) (hd:Bool),DataW.TrodAll enc P W' b sp hd f.resultTypes.toList ((Value.bool true).resultList f.resultTypes.size) (s.fn H (ds++[])).results []:=by
  intro b sp hd;rw[hrl,hres,hrt];exact trodAll_mk1 (shut_bool hbool true)
 have ha:∀ (sp:Nat->Bool),(∀ x∈before,sp x.block=true)->DataW.TrodAll enc P W' 0 sp true f.params.toList args.toList (s.fn H (ds++[])).args before:=by
  intro sp hsp;rw[hargs];exact lF hl hread hA hsame hsp
 have hv:∀ (sp:Nat->Bool),DataW.TrodVars enc P W' sp s.vars (s.fn H (ds++[])).vars []:=by
  intro sp;rw[hvars,hvs];rfl
 refine⟨ds,[],before,[],before,[],hW',hr _ _ _,ha _ (λx hx=>by simpa using hlt x hx),hv _,hb.frame _,λ_=>⟨ok_one hrt rfl (okWide_bool_mk hbool true),_,_,([]++before)++[],⟨[]++before,[],trodAll_append (ha _ (λ_ _=>rfl)) (hr _ _ _),hv _,rfl,?_,?_⟩,?_⟩⟩
 ·intro b off hp;have hp:MemPlace.cell b off∈before:=by simpa using hp
  rw[hb.frozen (p:=⟨b,off,none⟩) (hlt _ hp)];exact hz b off hp
 ·intro hap;have:=hn hap;simpa using this
 ·intro x hx _;simpa using hx
end
section
variable {H:Type} {enc:TypeId×Value->H} {P:Program} {w:World} {base:Nat} {spare:Nat->Bool} {held:Bool}
def shF (P:Program)(g:Ty->TypeId->Bool):List Field->Nat->Ty->Bool
 |[],_,_=>false
 |[f],off,b=>AJ f.offset off&&AJ (P.cellsOf f.type) b.cells&&g b f.type
 |f::fs,off,.pair b c=>AJ f.offset off&&AJ (P.cellsOf f.type) b.cells&&g b f.type&&shF P g fs (off+b.cells) c
 |_,_,_=>false
def shT (P:Program):Nat->Ty->TypeId->Bool
 |0,_,_=>false
 |n+1,a,t=>match a with
  |.int k=>(match P.underlying t with|some (.int k')=>decide (k'=k)|_=>false)
  |.bool=>(match P.underlying t with|some .bool=>true|_=>false)
  |.str=>(match P.underlying t with|some .string=>true|_=>false)
  |.pair b c=>(match P.underlying t with|some (.struct fs)=>shF P (shT P n) fs.toList 0 (.pair b c)&&AJ (P.cellsOf t) (b.cells+c.cells)|_=>false)
  |.list _ E e=>(match P.underlying t with|some (.slice E')=>AJ E' E&&AJ (P.cellsOf E) e.cells&&BD 0 e.cells&&shT P n e E|_=>false)
  |.unit=>false
  |.hdr=>false
def Sm:(a:Ty)->a.den->Prop
 |.int k,n=>(Lit.int k n).wf=true
 |.pair a b,x=>Sm a x.1/\Sm b x.2
 |.list _ _ e,xs=>xs.length<=maxLen/\∀ x∈(xs:List e.den),Sm e x
 |.bool,_=>True
 |.str,s=>s.size<=maxLen
 |.unit,_=>True
 |.hdr,_=>True
theorem j8 {α β:Type}{f:α->Option β}:∀ (l:List α) (ys:List β),l.mapM f=some ys->ys.length=l.length/\∀ (i:Nat) (x:α),l[i]?=some x->∃ y,f x=some y/\ys[i]?=some y
 |[],ys,h=>by
  simp at h;subst h;exact⟨rfl,λi x hx=>by simp at hx⟩
 |x::l,ys,h=>by
  rw[BJ]at h;cases hf:f x with
  |none=>rw[hf]at h;cases h
  |some y =>
   rw[hf]at h;cases hm:l.mapM f with
   |none=>rw[hm]at h;cases h
   |some zs =>
    rw[hm]at h;cases h;obtain⟨h1,h2⟩:=j8 l zs hm;refine⟨by simp[h1],λi u hu=>?_⟩;cases i with
    |zero=>simp at hu;subst hu;exact⟨y,hf,rfl⟩
    |succ i=>simpa using h2 i u (by simpa using hu)
theorem qz {a:Addr}{n:Nat}{cs:List Value}(h:w.cells? base a n=some cs):base<=a.block/\cs.length=n/\∀ i u,cs[i]?=some u->w.cell? (a.add i)=some u:=by
 unfold World.cells? at h;split at h
 ·rename_i hb;obtain⟨h1,h2⟩:=j8 _ _ h;refine⟨hb,by simpa using h1,λi u hu=>?_⟩;have hi:i<n:=by have:=(AK.1 hu).1;rw[h1]at this;simpa using this
  obtain⟨y,h3,h4⟩:=h2 i i (by simp[hi]);rw[hu]at h4;cases h4;exact h3
 ·cases h
theorem ne {g:Ty->TypeId->Bool}{rd:TypeId->List Value->Option (DataW H×List MemPlace)}
  (hg:∀ b t,g b t=true->∀ cs d,rd t cs=some d->∃ x:b.den,Rd w (λk=>k<w.heap.size) b x cs/\Sm b x) :
  ∀ (fs:List Field) (off:Nat) (b:Ty),shF P g fs off b=true->∀ (cs:List Value),cs.length=off+b.cells ->
   (∀ f∈fs,∃ d,rd f.type ((cs.drop f.offset).take (P.cellsOf f.type))=some d)->∃ x:b.den,Rd w (λk=>k<w.heap.size) b x (cs.drop off)/\Sm b x
 |[],_,_,h=>by simp[shF]at h
 |[f],off,b,h=>by
  intro cs hcs hr;simp only[shF,AC]at h;obtain⟨⟨h1,h2⟩,h3⟩:=h;have h1:=AH h1;have h2:=AH h2;obtain⟨d,hd⟩:=hr f (AG ..);rw[h1,h2,List.take_of_length_le (by simp;omega)]at hd;exact hg b f.type h3 _ d hd
 |f::f'::fs,off,.pair b c,h=>by
  intro cs hcs hr;simp only[shF,AC]at h;obtain⟨⟨⟨h1,h2⟩,h3⟩,h4⟩:=h;have h1:=AH h1;have h2:=AH h2;have hcs:cs.length=off+(b.cells+c.cells):=hcs;obtain⟨d,hd⟩:=hr f (AG ..);rw[h1,h2]at hd;obtain⟨x,hx,hsx⟩:=hg b f.type h3 _ d hd;obtain⟨y,hy,hsy⟩:=ne hg (f'::fs) (off+b.cells) c h4 cs (by omega) (λf0 hf0=>hr f0 (AF _ hf0));refine⟨(x,y),⟨_,_,?_,hx,hy⟩,hsx,hsy⟩;rw[<- BH,List.take_append_drop]
 |f::f'::fs,off,.int _,h=>by simp[shF]at h
 |f::f'::fs,off,.bool,h=>by simp[shF]at h
 |f::f'::fs,off,.str,h=>by simp[shF]at h
 |f::f'::fs,off,.unit,h=>by simp[shF]at h
 |f::f'::fs,off,.list _ _ _,h=>by simp[shF]at h
 |f::f'::fs,off,.hdr,h=>by simp[shF]at h
theorem nf {β:Type}(Q:Nat->β->Prop):∀ (n:Nat),(∀ i,i<n->∃ x,Q i x)->∃ xs:List β,xs.length=n/\∀ i x,xs[i]?=some x->Q i x
 |0,_=>⟨[],rfl,λi x h=>by simp at h⟩
 |n+1,h=>by
  obtain⟨xs,h1,h2⟩:=nf Q n (λi hi=>h i (by omega));obtain⟨x,hx⟩:=h n (by omega);refine⟨xs++[x],by simp[h1],λi y hy=>?_⟩;by_cases hi:i<n
  ·rw[Ab (by omega)]at hy;exact h2 i y hy
  ·have hi2:i<(xs++[x]).length:=(AK.1 hy).1;have:i=n:=by simp at hi2;omega
   subst this;rw[AZ (by omega),h1,Nat.sub_self]at hy;simp at hy;subst hy;exact hx
theorem pK:∀ (n:Nat) (a:Ty) (t:TypeId),shT P n a t=true->∀ (fuel:Nat) (cs:List Value) (d:DataW H×List MemPlace),DataW.trod enc P w base spare held fuel t cs=some d ->
    ∃ x:a.den,Rd w (λk=>k<w.heap.size) a x cs/\Sm a x
  |0,_,_,h=>by simp[shT]at h
  |n+1,a,t,h=>by
    intro fuel cs d hd;cases fuel with
    |zero=>simp[DataW.trod]at hd
    |succ fuel =>
      cases a with
      |int k =>
        simp only[shT]at h;split at h
        · rename_i k' hu
          have hk:=of_decide_eq_true h;subst hk;simp only[DataW.trod,hu]at hd;split at hd <;> first|(rename_i heq;cases heq;done)|skip
          all_goals first
            | (rename_i k1 k2 m heq1
               cases heq1;split at hd
               · rename_i hw
                 obtain⟨rfl,hw⟩:=hw;exact⟨m,rfl,hw⟩
               · cases hd)
            |cases hd
        · cases h
      |bool =>
        simp only[shT]at h;split at h
        · rename_i hu
          simp only[DataW.trod,hu]at hd;split at hd <;> first|(rename_i heq;cases heq;done)|skip
          all_goals first
            |(rename_i b heq1;exact⟨b,rfl,trivial⟩)
            |cases hd
        · cases h
      |str =>
        simp only[shT]at h;split at h
        · rename_i hu
          simp only[DataW.trod,hu]at hd;split at hd <;> first|(rename_i heq;cases heq;done)|skip
          all_goals first
            | (rename_i b heq1
               split at hd
               · rename_i hb
                 exact⟨b,rfl,hb⟩
               · cases hd)
            |cases hd
        · cases h
      |unit=>simp[shT]at h
      |hdr=>simp[shT]at h
      |pair b c =>
        simp only[shT]at h;split at h
        · rename_i fs hu
          simp only[AC]at h;obtain⟨h1,h2⟩:=h;have h2:=AH h2;simp only[DataW.trod,hu]at hd;split at hd
          · rename_i hlen
            simp only[AI]at hd;obtain⟨ys,hys,_⟩:=hd;obtain⟨h3,h4⟩:=j8 _ _ hys;have:=ne (w:=w) (rd:=DataW.trod enc P w base spare held fuel) (λb t hb cs d hd=>pK n b t hb fuel cs d hd) fs.toList 0 (.pair b c) h1 cs (by rw[hlen,h2,Ar];rfl) (λf hf=>by
              obtain⟨i,hi,e⟩:=BP hf;obtain⟨y,h5,_⟩:=h4 i f (by rw[AR hi,e]);exact⟨y,h5⟩)
            simpa using this
          · cases hd
        · cases h
      |list m E e =>
        simp only[shT]at h;split at h
        · rename_i E' hu
          simp only[AC]at h;obtain⟨⟨⟨h1,h2⟩,h3⟩,h4⟩:=h;have h1:=AH h1;subst h1;have h2:=AH h2;have h3:0<e.cells:=by simpa[Au]using h3
          simp only[DataW.trod,hu]at hd;split at hd <;> first|(rename_i heq;cases heq;done)|skip
          all_goals first
            |cases hd;done
            |skip
          · exact⟨[],Rd.nil w _ m _ e,Bb _,by simp⟩
          · rename_i E2 ad len cap heq1
            cases heq1;split at hd
            · rename_i hc
              obtain⟨hbase,hlc,hcm⟩:=hc;obtain⟨els,hels,_⟩:=Af.1 hd;obtain⟨h5,h6⟩:=j8 _ _ hels;have hel:∀ i,i<len->∃ x:e.den,∃ c,w.cells? base (ad.add (i*e.cells)) e.cells=some c/\Rd w (λk=>k<w.heap.size) e x c/\Sm e x:=by
                intro i hi;obtain⟨y,h7,_⟩:=h6 i i (by simp[hi]);obtain⟨c,h8,h9⟩:=Af.1 h7;rw[h2]at h8;obtain⟨x,hx,hsx⟩:=pK n e _ h4 fuel c y h9;exact⟨x,c,h8,hx,hsx⟩
              obtain⟨xs,hxl,hxs⟩:=nf (λi (x:e.den)=>∃ c,w.cells? base (ad.add (i*e.cells)) e.cells=some c/\Rd w (λk=>k<w.heap.size) e x c/\Sm e x) len hel;refine⟨xs,⟨some ad,cap,by rw[hxl],by omega,λhp=>?_⟩,by omega,λx hx=>?_⟩
              · have hlt:0<xs.length:=hp
                obtain⟨c,hc1,hc2,_⟩:=hxs 0 xs[0] (AR hlt);obtain⟨_,hc3,hc4⟩:=qz hc1;have h0:0<c.length:=by omega
                have hcell:=hc4 0 c[0] (AR h0);have e0:(ad.add (0*e.cells)).add 0=ad:=by simp[Addr.add]
                rw[e0]at hcell;have hspot:ad.spot=none/\ad.block<w.heap.size:=by
                  unfold World.cell? at hcell;split at hcell
                  · rename_i hh
                    split at hcell
                    · cases hcell
                    · rename_i hs
                      refine⟨by simpa using hs,(A3.1 hh).1⟩
                  · cases hcell
                obtain⟨g,o,sp⟩:=ad;obtain⟨hs1,hs2⟩:=hspot;simp only at hs1 hs2;subst hs1;refine⟨g,o,rfl,hs2,λj x hj=>?_⟩;obtain⟨c,hc1,hc2,_⟩:=hxs j x hj;obtain⟨_,_,hc4⟩:=qz hc1;refine⟨c,hc2,λi u hi=>?_⟩;have:=hc4 i u hi
                rwa [et,et]at this
              · obtain⟨j,hj,e1⟩:=BP hx
                obtain⟨c,_,_,hs⟩:=hxs j x (by rw[AR hj,e1]);exact hs
            · cases hd
        · cases h
end
section
variable {H:Type} {enc:TypeId×Value->H} {P:Program} {w:World}
theorem xv {n:Nat}{a:Ty}{t:TypeId}(hs:shT P (n+1) a t=true){v:Value}{d:DataW H}{p:List MemPlace}(hr:DataW.Trod enc P w 0 (λ_=>true) true t v d p){base:Nat}(hok:Bi P w .any base t v) :
  ∃ x:a.den,(∃ cs,cX a.isAgg v cs/\Rd w (λk=>k<w.heap.size) a x cs)/\Sm a x:=by
 obtain⟨fuel,hr⟩:=hr;obtain⟨x,hx,hsx⟩:=pK (n+1) a t hs fuel _ _ hr;refine⟨x,⟨v.cells.toList,?_,hx⟩,hsx⟩;cases a with
 |int k =>
  simp only[shT]at hs;split at hs
  ·rename_i k' hu;obtain⟨n,rfl⟩:=okWide_int hu hok;rfl
  ·cases hs
 |bool =>
  simp only[shT]at hs;split at hs
  ·rename_i hu;obtain⟨n,rfl⟩:=okWide_bool hu hok;rfl
  ·cases hs
 |str =>
  simp only[shT]at hs;split at hs
  ·rename_i hu;obtain⟨n,rfl⟩:=okWide_string hu hok;rfl
  ·cases hs
 |list m E e =>
  simp only[shT]at hs;split at hs
  ·rename_i E' hu;obtain⟨A,len,cap,rfl⟩:=okWide_slice hu hok;rfl
  ·cases hs
 |unit=>simp[shT]at hs
 |hdr=>simp[shT]at hs
 |pair b c =>
  simp only[shT]at hs;split at hs
  ·rename_i fs hu;obtain⟨cs,rfl,_⟩:=okWide_struct hu hok;show Value.agg cs=.agg (Value.agg cs).cells.toList.toArray;simp[Value.cells]
  ·cases hs
def Sms:(as:List Ty)->ab (as.map .rd)->Prop
 |[],_=>True
 |a::as,x=>Sm a x.1/\Sms as x.2
def sB (P:Program):List Ty->List TypeId->Bool
 |[],[]=>true
 |a::as,t::ts=>shT P 64 a t&&sB P as ts
 |_,_=>false
theorem qA {pr:Nat->Prop}:∀ (as:List Ty) (ts:List TypeId) (vs:List Value) (ds:List (DataW H)) (ps:List MemPlace),sB P as ts=true->DataW.TrodAll enc P w 0 (λ_=>true) true ts vs ds ps ->
  (∃ base,∀ (j:Nat) (t:TypeId) (v:Value),ts[j]?=some t->vs[j]?=some v->Bi P w .any base t v)->∃ x:ab (as.map .rd),cQ P w (λk=>k<w.heap.size) pr (as.map .rd) x vs (as.map λ_=>[])/\Sms as x
 |[],[],[],[],_,_,_,_=>⟨(),⟨rfl,rfl⟩,trivial⟩
 |[],[],[],_::_,_,_,h,_=>h.elim
 |[],[],_::_,_,_,_,h,_=>h.elim
 |[],_::_,_,_,_,h,_,_=>by simp[sB]at h
 |_::_,[],_,_,_,h,_,_=>by simp[sB]at h
 |_::_,_::_,[],_,_,_,h,_=>h.elim
 |_::_,_::_,_::_,[],_,_,h,_=>h.elim
 |a::as,t::ts,v::vs,d::ds,ps,hs,⟨p,q,h1,h2,_⟩,⟨base,hok⟩=>by
  simp only[sB,AC]at hs;obtain⟨x,hx,hsx⟩:=xv (n:=63) hs.1 h1 (hok 0 t v rfl rfl);obtain⟨y,hy,hsy⟩:=qA as ts vs ds q hs.2 h2 ⟨base,λj t' v' h3 h4=>hok (j+1) t' v' (by simpa using h3) (by simpa using h4)⟩;exact⟨(x,y),⟨v,vs,[],_,rfl,rfl,⟨rfl,hx⟩,hy⟩,hsx,hsy⟩
theorem xw (tys:List Ty):(tys.map λ_=>([]:List Nat)).flatten=[]:=by
 induction tys with
 |nil=>rfl
 |cons a tys ih=>simp
theorem wt {f:FuncId}{tys:List Ty}{fresh:Bool}{den:ab (tys.map PK.rd)->Option (ak [.v .bool]×aj (tys.map PK.rd))}(hs:af P ⟨f,tys.map .rd,[.v .bool],fresh,den⟩){x:ab (tys.map .rd)}{vs:List Value}{o:aj (tys.map .rd)}
  (hx:cQ P w (λk=>k<w.heap.size) (λk=>k<w.heap.size) (tys.map .rd) x vs (tys.map λ_=>[])) (hd:den x=some ((true,()),o)):Calls P f vs.toArray w (λe w'=>e=.returned (.bool true)/\Below w.heap.size w w'):=by
 have hb:=xw tys;have:=hs.2 w (λk=>k<w.heap.size) x vs _ _ (hx.mono (λ_ h=>h) (λk hk=>⟨hk,by rw[hb];simp⟩)) (λk hk=>⟨hk,by rw[hb];simp⟩) (by rw[hb];exact A5) hd;refine this.mono λe w' hp=>?_
 obtain⟨v,us,N,oss,rbs,rfl,hret,hsz,hos,htp,hou,hfr,_,_,hres,_,_⟩:=hp;refine⟨?_,⟨hos,htp,hou,hsz,λk hk=>hfr k hk (by rw[hb];simp)⟩⟩;obtain⟨u,us',b,bss',e1,e2,⟨cs,hvo,hm⟩,e3,e4⟩:=hres;subst e3;subst e1;have hret:v=u:=hret;subst hret;have hvo:cs=[v]:=hvo;have hm:cs=[.bool true]:=hm.1;rw[hvo]at hm;simp only[BE,and_true]at hm;rw[hm]
end
end Go.Proofs.YtmcbmojdeikcdaaGreatEv
