/- One operation looks at some slots alone. -/
import Derived.Test.YtmcbmojdeikcdaaGreatE5
namespace Go.Proofs.YtmcbmojdeikcdaaGreatEv
open Go Go.RowKit
section
variable {P:Program} {V:Env} {Γ:List Ctr} {T:TypeId->TI} {st st':St} {o:Oper} {R:Type} {κ:Upd->Option R} {r:R}
theorem fE {α β:Type}(b:Bool)(x y:Option α)(f:α->Option β):(bif b then x else y).bind f=bif b then x.bind f else y.bind f:=by cases b <;> rfl
theorem uw {b:Option (Bool×Nat×Nat)}{U:Upd}:iO st b U κ=(iO st b U some).bind κ:=by
 unfold iO;split
 ·split
  ·simp only[Option.bind_assoc];congr 1;funext y;split <;> rfl
  ·rfl
 ·rfl
theorem ux {d:Nat}{f:FuncId}{xs:List (aG×List Leaf)}:ip Γ st d f xs κ=(ip Γ st d f xs some).bind κ:=by
 unfold ip;cases kD Γ f with
 |none=>rfl
 |some c =>
  simp only[fD,Option.bind_assoc];congr 1;funext u;cases m9 Γ (ac u.1 st) c.ps u.2.1 with
  |none=>rfl
  |some g =>
   simp only[fE,Option.bind_assoc,Option.bind_none];congr 2;funext y;exact uw
theorem lp {st0:St}{U0:Upd}{d:Nat}{E:TypeId}{e:Ty}{bytes:Nat}{p:Bool}{xs:List e.den}{ks:List (Nat×Nat)}{y:Leaf}:dx st st0 U0 d E e bytes p xs ks y κ=(dx st st0 U0 d E e bytes p xs ks y some).bind κ:=by
 unfold dx;split
 ·simp only[fE,Option.bind_none,Option.bind_some]
 ·rfl
theorem rP {U0:Upd}{d:Nat}{E:TypeId}{e:Ty}{bytes:Nat}{x y:Leaf}:dM st U0 d E e bytes x y κ=(dM st U0 d E e bytes x y some).bind κ:=by
 unfold dM;split
 ·split
  ·rw[fE,<- lp];rfl
  ·rfl
 ·exact lp
 ·rfl
theorem rQ {d:Nat}{E:TypeId}{e:Ty}{bytes:Nat}{x y:Leaf}:gw st d E e bytes x y κ=(gw st d E e bytes x y some).bind κ:=by
 unfold gw;simp only[gb,fE,Option.bind_assoc,<- rP]
theorem lY {r j i off n:Nat}{p:Bool}{E:TypeId}{e:Ty}{xs:List e.den}{h:Option (Nat×Nat)}{ls:List Leaf}:fH st r j i off n p E e xs h ls κ=(fH st r j i off n p E e xs h ls some).bind κ:=by
 unfold fH;simp only[Option.bind_assoc];congr 1;funext old;split
 ·rw[fE];congr 1;split
  ·rfl
  ·simp only[fE,Option.bind_some]
 ·rfl
theorem rR:act Γ T o st κ=(act Γ T o st some).bind κ:=by
 cases hop:o.op <;> simp only[act,wrU,hop] <;> (repeat' split) <;>
  (try simp only[fE,Option.bind_assoc,Option.bind_none,Option.bind_some]) <;> (try rfl) <;> (try exact ux) <;> (try (rw[rQ];done)) <;> (try (rw[lY];done)) <;> (try (rw[<- lY];done))
theorem bh {q:Nat}(h:st' q=st q):∀ (U:Upd),ac U st' q=ac U st q
 |[]=>h
 |(r,c)::U=>by simp only[ac,bh h U]
theorem dw {x:Operand}(h:∀ t,x=.tmp t->st' t=st t):ar st' x=ar st x:=by
 cases x with
 |tmp t=>simp only[ar,h t rfl]
 |_=>rfl
theorem dg {x:Operand}(h:∀ t,x=.tmp t->st' t=st t):one st' x=one st x:=by
 unfold one;rw[dw h]
theorem j8:∀ (l1 l2:List Leaf),aw (l1++l2)=aw l1++aw l2
 |[],_=>rfl
 |l::l1,l2=>by cases l <;> simp[aw,j8 l1 l2]
theorem aL (l:Leaf)(ls:List Leaf):aw (l::ls)=aw [l]++aw ls:=j8 [l] ls
theorem eQ:∀ (n:Nat) (ls:List Leaf) (q:Nat),q∈aw (ls.drop n)->q∈aw ls
 |0,_,_,h=>h
 |n+1,[],_,h=>h
 |n+1,l::ls,q,h=>by rw[aL];exact List.mem_append_right _ (eQ n ls q h)
theorem p8:∀ (n:Nat) (ls:List Leaf) (q:Nat),q∈aw (ls.take n)->q∈aw ls
 |0,_,_,h=>by simp[aw]at h
 |n+1,[],_,h=>by simp[aw]at h
 |n+1,l::ls,q,h=>by
  rw[List.take_succ_cons,aL,List.mem_append]at h;rw[aL,List.mem_append];exact h.imp id (p8 n ls q)
theorem pu:∀ {ls:List Leaf} {k:Nat} {l:Leaf},ls[k]?=some l->∀ q∈aw [l],q∈aw ls
 |[],_,_,h,_,_=>by simp at h
 |l'::ls,0,l,h,q,hq=>by simp at h;subst h;rw[aL];exact List.mem_append_left _ hq
 |l'::ls,k+1,l,h,q,hq=>by rw[aL];exact List.mem_append_right _ (pu (by simpa using h) q hq)
theorem iE {ks:List (Nat×Nat×Nat)}{ep:Nat}(h:∀ q∈EPO::ks.map (·.1),st' q=st q):bj st' ks ep=bj st ks ep:=by
 unfold bj;rw[h EPO (List.mem_cons_self ..)];congr 1;induction ks with
 |nil=>rfl
 |cons k ks ih =>
  rw[List.all_cons,List.all_cons,ih (λq hq=>h q (by simp at hq ⊢;rcases hq with hq|hq;exact .inl hq;exact .inr (.inr hq))),h k.1 (by simp)]
theorem gp {p:Bool}{ks:List (Nat×Nat×Nat)}{ep:Nat}{loc:Option (Nat×Nat×Nat)}{E:TypeId}{e:Ty}{xs:List e.den}:aw [.nal p ks ep loc E e xs]=EPO::ks.map (·.1):=by simp[aw]
theorem tr {p:Bool}{ks:List (Nat×Nat×Nat)}{ep:Nat}{a:Ty}{x:a.den}{off:Nat}:aw [.np p ks ep a x off]=EPO::ks.map (·.1):=by simp[aw]
theorem b6 {l:Leaf}(h:∀ q∈aw [l],st' q=st q):aD st' l=aD st l:=by
 cases l with
 |al r j v=>simp only[aD,h r (by simp[aw])]
 |nal p ks ep loc E e xs=>rw[gp]at h;simp only[aD,iE h]
 |_=>rfl
theorem iN:∀ (a:Ty) (ls:List Leaf) (p:Bool) (x:a.den) (rest:List Leaf),aV st a ls=some (p,x,rest)->∃ l1,ls=l1++rest
 |.int k,ls,p,x,rest,h=>by
  simp only[aV]at h;split at h
  ·split at h
   ·simp at h;exact⟨[_],by rw[<- h.2.2];rfl⟩
   ·cases h
  ·cases h
 |.bool,ls,p,x,rest,h=>by
  simp only[aV]at h;split at h
  ·simp at h;exact⟨[_],by rw[<- h.2.2];rfl⟩
  ·cases h
 |.str,ls,p,x,rest,h=>by
  simp only[aV]at h;split at h
  ·simp at h;exact⟨[_],by rw[<- h.2.2];rfl⟩
  ·cases h
 |.unit,ls,p,x,rest,h=>by
  simp only[aV,Option.some.injEq,Prod.mk.injEq]at h;exact⟨[],by rw[h.2.2];rfl⟩
 |.hdr,ls,p,x,rest,h=>by
  simp only[aV]at h;split at h
  ·split at h
   ·simp at h;exact⟨[_],by rw[<- h.2.2];rfl⟩
   ·cases h
  ·cases h
 |.pair a b,ls,p,x,rest,h=>by
  simp only[aV]at h;split at h
  ·rename_i q y ls1 ha;split at h
   ·rename_i q' z ls2 hb;simp at h;obtain⟨l1,e1⟩:=iN a ls q y ls1 ha;obtain⟨l2,e2⟩:=iN b ls1 q' z ls2 hb;exact⟨l1++l2,by rw[e1,e2,h.2.2,List.append_assoc]⟩
   ·cases h
  ·cases h
 |.list m E e,ls,p,x,rest,h=>by
  simp only[aV]at h;split at h
  ·split at h
   ·simp at h;exact⟨[_],by rw[<- h.2.2];rfl⟩
   ·cases h
  ·cases h
theorem fF:∀ (a:Ty) (ls:List Leaf),(∀ q∈aw ls,st' q=st q)->aV st' a ls=aV st a ls
 |.int k,ls,h=>rfl
 |.bool,ls,h=>rfl
 |.str,ls,h=>rfl
 |.unit,ls,h=>rfl
 |.hdr,ls,h=>by
  cases ls with
  |nil=>rfl
  |cons l ls =>
   simp only[aV];rw[b6 (l:=l) (λq hq=>h q (by rw[aL];exact List.mem_append_left _ hq))]
 |.pair a b,ls,h=>by
  simp only[aV,fF a ls h];cases ha:aV st a ls with
  |none=>rfl
  |some x =>
   obtain⟨p,y,ls1⟩:=x;obtain⟨l1,e1⟩:=iN a ls p y ls1 ha;simp only;rw[fF b ls1 (λq hq=>h q (by rw[e1,j8];exact List.mem_append_right _ hq))]
 |.list m E e,ls,h=>by
  cases ls with
  |nil=>rfl
  |cons l ls =>
   simp only[aV];rw[b6 (l:=l) (λq hq=>h q (by rw[aL];exact List.mem_append_left _ hq))]
theorem dW {a:Ty}{ls:List Leaf}(h:∀ q∈aw ls,st' q=st q):ct st' a ls=ct st a ls:=by
 unfold ct;rw[fF a ls h]
theorem lZ {e:Ty}:∀ (n:Nat) (ls:List Leaf),(∀ q∈aw ls,st' q=st q)->eO st' e n ls=eO st e n ls
 |0,_,_=>rfl
 |n+1,ls,h=>by
  simp only[eO,dW (ls:=ls.take e.cells) (λq hq=>h q (p8 _ _ q hq)),lZ n (ls.drop e.cells) (λq hq=>h q (eQ _ _ q hq))]
theorem ig:∀ {ls:List Leaf},(∀ q∈aw ls,st' q=st q)->bq st' ls=bq st ls
 |[],_=>rfl
 |l::ls,h=>by
  have ih:=ig (ls:=ls) (λq hq=>h q (by rw[aL];exact List.mem_append_right _ hq));cases l with
  |al r j v=>simp only[bq,ih,b6 (l:=.al r j v) (λq hq=>h q (by rw[aL];exact List.mem_append_left _ hq))]
  |nal p ks ep loc E e xs=>simp only[bq,ih,b6 (l:=.nal p ks ep loc E e xs) (λq hq=>h q (by rw[aL];exact List.mem_append_left _ hq))]
  |_=>simpa[bq]using ih
theorem nC:∀ {ls:List Leaf},(∀ q∈aw ls,st' q=st q)->bR st' ls=bR st ls
 |[],_=>rfl
 |l::ls,h=>by
  have ih:=nC (ls:=ls) (λq hq=>h q (by rw[aL];exact List.mem_append_right _ hq));cases l with
  |al r j v=>simp only[bR,ih,b6 (l:=.al r j v) (λq hq=>h q (by rw[aL];exact List.mem_append_left _ hq))]
  |_=>simpa[bR]using ih
theorem pv:∀ {ls:List Leaf},(∀ q∈aw ls,st' q=st q)->c7 st' ls=c7 st ls
 |[],_=>rfl
 |l::ls,h=>by
  have ih:=pv (ls:=ls) (λq hq=>h q (by rw[aL];exact List.mem_append_right _ hq));cases l with
  |nal p ks ep loc E e xs =>
   cases loc with
   |none=>simp only[c7,ih,b6 (l:=.nal p ks ep none E e xs) (λq hq=>h q (by rw[aL];exact List.mem_append_left _ hq))]
   |some x=>simpa[c7]using ih
  |_=>simpa[c7]using ih
theorem nD {ls:List Leaf}(h:∀ q∈aw ls,st' q=st q):dk st' ls=dk st ls:=by
 unfold dk;induction ls with
 |nil=>rfl
 |cons l ls ih =>
  rw[List.map_cons,List.map_cons,ih (λq hq=>h q (by rw[aL];exact List.mem_append_right _ hq))];unfold fj;rw[b6 (λq hq=>h q (by rw[aL];exact List.mem_append_left _ hq))]
theorem dP:∀ {ls:List Leaf} {x:Nat×Nat},x∈bq st ls->x.1∈aw ls
 |[],_,h=>by simp[bq]at h
 |l::ls,x,h=>by
  cases l with
  |al r j v =>
   simp only[bq,List.mem_append]at h;rcases h with h|h
   ·split at h
    ·simp at h;subst h;simp[aw]
    ·simp at h
   ·rw[aL];exact List.mem_append_right _ (dP h)
  |nal p ks ep loc E e xs =>
   simp only[bq,List.mem_append]at h;rcases h with h|h
   ·split at h
    ·obtain⟨k,hk,rfl⟩:=List.mem_map.1 h;rw[aL,gp];exact List.mem_append_left _ (List.mem_cons_of_mem _ (List.mem_map.2 ⟨k,hk,rfl⟩))
    ·simp at h
   ·rw[aL];exact List.mem_append_right _ (dP h)
  |_=>(simp only[bq]at h;rw[aL];exact List.mem_append_right _ (dP h))
theorem ii:∀ {ls:List Leaf} {x:Nat×Nat},x∈bR st ls->x.1∈aw ls
 |[],_,h=>by simp[bR]at h
 |l::ls,x,h=>by
  cases l with
  |al r j v =>
   simp only[bR,List.mem_append]at h;rcases h with h|h
   ·split at h
    ·simp at h;subst h;simp[aw]
    ·simp at h
   ·rw[aL];exact List.mem_append_right _ (ii h)
  |_=>(simp only[bR]at h;rw[aL];exact List.mem_append_right _ (ii h))
theorem gh:∀ {ls:List Leaf} {x:Nat×Nat},x∈c7 st ls->x.1∈aw ls
 |[],_,h=>by simp[c7]at h
 |l::ls,x,h=>by
  cases l with
  |nal p ks ep loc E e xs =>
   cases loc with
   |none =>
    simp only[c7,List.mem_append]at h;rcases h with h|h
    ·split at h
     ·obtain⟨k,hk,rfl⟩:=List.mem_map.1 h;rw[aL,gp];exact List.mem_append_left _ (List.mem_cons_of_mem _ (List.mem_map.2 ⟨k,hk,rfl⟩))
     ·simp at h
    ·rw[aL];exact List.mem_append_right _ (gh h)
   |some y=>(simp only[c7]at h;rw[aL];exact List.mem_append_right _ (gh h))
  |_=>(simp only[c7]at h;rw[aL];exact List.mem_append_right _ (gh h))
theorem gq:∀ {ks:List (Nat×Nat)},(∀ x∈ks,st' x.1=st x.1)->aM st' ks=aM st ks
 |[],_=>rfl
 |(r,j)::ks,h=>by
  simp only[aM,gq (ks:=ks) (λx hx=>h x (List.mem_cons_of_mem _ hx)),bh (h (r,j) (List.mem_cons_self ..))]
theorem jb:∀ {ks:List (Nat×Nat)},(∀ x∈ks,st' x.1=st x.1)->aE st' ks=aE st ks
 |[],_=>rfl
 |(r,j)::ks,h=>by
  simp only[aE,jb (ks:=ks) (λx hx=>h x (List.mem_cons_of_mem _ hx)),bh (h (r,j) (List.mem_cons_self ..))]
theorem rS {ls:List Leaf}(h:∀ q∈aw ls,st' q=st q):mvU st' ls=mvU st ls:=by
 unfold mvU;rw[pv h,nC h,jb (λx hx=>h _ (gh hx))];simp only;rw[gq (λx hx=>bh (h _ (ii hx)) _)]
theorem pw {ls:List Leaf}(h:∀ q∈aw ls,st' q=st q):gi st' ls=gi st ls:=by
 unfold gi;rw[pv h,nC h]
theorem ij:∀ (a:Ty) (ls:List Leaf),(∀ q∈aw ls,st' q=st q)->take st' a ls=take st a ls
 |.int k,ls,h=>by simp only[take,fF (.int k) ls h]
 |.bool,ls,h=>by simp only[take,fF .bool ls h]
 |.str,ls,h=>by simp only[take,fF .str ls h]
 |.unit,ls,h=>rfl
 |.hdr,ls,h=>by simp only[take,fF .hdr ls h]
 |.pair a b,ls,h=>by
  simp only[take,ij a ls h];cases ha:take st a ls with
  |none=>rfl
  |some x =>
   have hr:=ja.take_rest a ls x ha;simp only;rw[ij b x.rest (λq hq=>h q (eQ a.cells ls q (by rw[<- hr];exact hq)))]
 |.list m E e,ls,h=>by
  cases ls with
  |nil=>rfl
  |cons l ls =>
   have hl:∀ q∈aw [l],st' q=st q:=λq hq=>h q (by rw[aL];exact List.mem_append_left _ hq)
   simp only[take,b6 hl,ig hl];congr 1;split
   ·rename_i r j v;rw[b6 hl]
   ·rfl
   ·rfl
theorem fT {a:Ty}{ls:List Leaf}(h:∀ q∈aw ls,st' q=st q):bZ st' a ls=bZ st a ls:=by
 unfold bZ;rw[ij a ls h]
theorem mD:∀ (a:Ty) (ls:List Leaf) (t:cq a.den),take st a ls=some t->(∀ z∈t.frz,z.1∈aw ls)/\∀ z∈t.kill,z.1∈aw ls
 |.int k,ls,t,h=>by simp only[take,Option.map_eq_some_iff]at h;obtain⟨_,_,rfl⟩:=h;exact⟨by simp,by simp⟩
 |.bool,ls,t,h=>by simp only[take,Option.map_eq_some_iff]at h;obtain⟨_,_,rfl⟩:=h;exact⟨by simp,by simp⟩
 |.str,ls,t,h=>by simp only[take,Option.map_eq_some_iff]at h;obtain⟨_,_,rfl⟩:=h;exact⟨by simp,by simp⟩
 |.hdr,ls,t,h=>by simp only[take,Option.map_eq_some_iff]at h;obtain⟨_,_,rfl⟩:=h;exact⟨by simp,by simp⟩
 |.unit,ls,t,h=>by simp only[take,Option.some.injEq]at h;subst h;exact⟨by simp,by simp⟩
 |.pair a b,ls,t,h=>by
  simp only[take]at h;split at h
  ·rename_i x hx;split at h
   ·rename_i y hy;simp only[Option.some.injEq]at h;subst h;have hr:=ja.take_rest a ls x hx;obtain⟨h1,h2⟩:=mD a ls x hx;obtain⟨h3,h4⟩:=mD b x.rest y hy;rw[hr]at h3 h4;exact⟨λz hz=>(List.mem_append.1 hz).elim (h1 z) (λhz=>eQ _ _ _ (h3 z hz)),λz hz=>(List.mem_append.1 hz).elim (h2 z) (λhz=>eQ _ _ _ (h4 z hz))⟩
   ·cases h
  ·cases h
 |.list m E e,ls,t,h=>by
  cases ls with
  |nil=>simp[take]at h
  |cons l ls =>
   have hl:∀ q∈aw [l],q∈aw (l::ls):=λq hq=>by rw[aL];exact List.mem_append_left _ hq
   cases m with
   |false =>
    simp only[take,cond_false]at h;split at h
    ·simp only[Option.some.injEq]at h;subst h;exact⟨λz hz=>hl _ (dP hz),by simp⟩
    ·cases h
   |true =>
    simp only[take,cond_true]at h;split at h
    ·split at h
     ·simp only[Option.map_eq_some_iff]at h;obtain⟨_,_,rfl⟩:=h;exact⟨by simp,λz hz=>by simp at hz;subst hz;exact hl _ (by simp[aw])⟩
     ·cases h
    ·simp only[Option.some.injEq]at h;subst h;exact⟨by simp,by simp⟩
    ·cases h
theorem gU {a:Ty}{ls:List Leaf}{t:cq a.den}(h:bZ st a ls=some t):(∀ z∈t.frz,z.1∈aw ls)/\∀ z∈t.kill,z.1∈aw ls:=by
 unfold bZ at h;split at h
 ·rename_i p x f k hq;simp only[Option.some.injEq]at h;subst h;exact mD a ls _ hq
 ·cases h
theorem iW:∀ {off n:Nat} (a:Ty) (pos:Nat) (x:a.den) (ls:List Leaf) (t:cq a.den),cJ st off n a pos x ls=some t->∃ k,t.rest=ls.drop k
 |off,n,.pair a b,pos,x,ls,t,h=>by
  simp only[cJ]at h;split at h
  ·rename_i u hu;split at h
   ·rename_i v hv;simp only[Option.some.injEq]at h;subst h;obtain⟨k1,e1⟩:=iW a pos x.1 ls u hu;obtain⟨k2,e2⟩:=iW b (pos+a.cells) x.2 u.rest v hv;exact⟨k1+k2,by show v.rest=_;rw[e2,e1,List.drop_drop]⟩
   ·cases h
  ·cases h
 |off,n,.unit,pos,x,ls,t,h=>by simp only[cJ,Option.some.injEq]at h;subst h;exact⟨0,rfl⟩
 |off,n,.hdr,pos,x,ls,t,h=>by simp[cJ]at h
 |off,n,.int k,pos,x,ls,t,h=>sc (a:=.int k) h
 |off,n,.bool,pos,x,ls,t,h=>sc (a:=.bool) h
 |off,n,.str,pos,x,ls,t,h=>sc (a:=.str) h
 |off,n,.list m E e,pos,x,ls,t,h=>sc (a:=.list m E e) h
where
 sc {a:Ty} {b:Bool} {x:a.den} {ls:List Leaf} {t:cq a.den} (h:(bif b then take st a ls else some ⟨false,x,[],[],ls⟩)=some t):∃ k,t.rest=ls.drop k:=by
  cases b with
  |true=>exact⟨_,ja.take_rest a ls t h⟩
  |false=>simp only[cond_false,Option.some.injEq]at h;subst h;exact⟨0,rfl⟩
theorem nE:∀ {off n:Nat} (a:Ty) (pos:Nat) (x:a.den) (ls:List Leaf),(∀ q∈aw ls,st' q=st q)->cJ st' off n a pos x ls=cJ st off n a pos x ls
 |off,n,.pair a b,pos,x,ls,h=>by
  simp only[cJ,nE a pos x.1 ls h];cases hu:cJ st off n a pos x.1 ls with
  |none=>rfl
  |some u =>
   obtain⟨k,e⟩:=iW a pos x.1 ls u hu;simp only;rw[nE b (pos+a.cells) x.2 u.rest (λq hq=>h q (eQ k ls q (by rw[<- e];exact hq)))]
 |off,n,.unit,pos,x,ls,h=>rfl
 |off,n,.hdr,pos,x,ls,h=>rfl
 |off,n,.int k,pos,x,ls,h=>by simp only[cJ,ij (.int k) ls h]
 |off,n,.bool,pos,x,ls,h=>by simp only[cJ,ij .bool ls h]
 |off,n,.str,pos,x,ls,h=>by simp only[cJ,ij .str ls h]
 |off,n,.list m E e,pos,x,ls,h=>by simp only[cJ,ij (.list m E e) ls h]
theorem nF:∀ {off n:Nat} (a:Ty) (pos:Nat) (x:a.den) (ls:List Leaf) (t:cq a.den),cJ st off n a pos x ls=some t->(∀ z∈t.frz,z.1∈aw ls)/\∀ z∈t.kill,z.1∈aw ls
 |off,n,.pair a b,pos,x,ls,t,h=>by
  simp only[cJ]at h;split at h
  ·rename_i u hu;split at h
   ·rename_i v hv;simp only[Option.some.injEq]at h;subst h;obtain⟨k,e⟩:=iW a pos x.1 ls u hu;obtain⟨h1,h2⟩:=nF a pos x.1 ls u hu;obtain⟨h3,h4⟩:=nF b (pos+a.cells) x.2 u.rest v hv;rw[e]at h3 h4;exact⟨λz hz=>(List.mem_append.1 hz).elim (h1 z) (λhz=>eQ _ _ _ (h3 z hz)),λz hz=>(List.mem_append.1 hz).elim (h2 z) (λhz=>eQ _ _ _ (h4 z hz))⟩
   ·cases h
  ·cases h
 |off,n,.unit,pos,x,ls,t,h=>by simp only[cJ,Option.some.injEq]at h;subst h;exact⟨by simp,by simp⟩
 |off,n,.hdr,pos,x,ls,t,h=>by simp[cJ]at h
 |off,n,.int k,pos,x,ls,t,h=>sc (a:=.int k) h
 |off,n,.bool,pos,x,ls,t,h=>sc (a:=.bool) h
 |off,n,.str,pos,x,ls,t,h=>sc (a:=.str) h
 |off,n,.list m E e,pos,x,ls,t,h=>sc (a:=.list m E e) h
where
 sc {a:Ty} {b:Bool} {x:a.den} {ls:List Leaf} {t:cq a.den} (h:(bif b then take st a ls else some ⟨false,x,[],[],ls⟩)=some t):(∀ z∈t.frz,z.1∈aw ls)/\∀ z∈t.kill,z.1∈aw ls:=by
  cases b with
  |true=>exact mD a ls t h
  |false=>simp only[cond_false,Option.some.injEq]at h;subst h;exact⟨by simp,by simp⟩
theorem tt {U:Upd}{d:Nat}{sh:aG}{ls:List Leaf}(h:st' d=st d):ce st' U d sh ls=ce st U d sh ls:=by
 simp only[ce,bh h]
theorem p9:∀ {xs:List Operand} {t:Nat},Operand.tmp t∈xs->t∈gy xs
 |[],_,h=>by simp at h
 |x::xs,t,h=>by
  rcases List.mem_cons.1 h with rfl|h
  ·simp[gy]
  ·have ih:=p9 h;cases x <;> simp[gy,ih]
theorem l6 (t n:Nat):∀ (j:Nat) (ls:List Leaf) (q:Nat),q∈aw (bu t n j ls)->q=t\/q∈aw ls
 |_,[],_,h=>by simp[bu,aw]at h
 |j,l::ls,q,h=>by
  simp only[bu]at h;rw[aL,List.mem_append]at h;rw[aL,List.mem_append];rcases h with h|h
  ·cases l with
   |own p hh E e xs=>simp[kA,aw]at h;exact .inl h
   |_=>exact .inr (.inl h)
  ·exact (l6 t n (j+1) ls q h).imp id .inr
theorem j9:∀ (l1 l2:List Leaf),ay (l1++l2)=ay l1++ay l2
 |[],_=>rfl
 |l::l1,l2=>by cases l <;> simp[ay,j9 l1 l2]
theorem c5 (l:Leaf)(ls:List Leaf):ay (l::ls)=ay [l]++ay ls:=j9 [l] ls
theorem eR:∀ {ls:List Leaf} {q:Nat},q∈aw ls->q∈ay ls
 |[],_,h=>by simp[aw]at h
 |l::ls,q,h=>by
  rw[aL,List.mem_append]at h;rw[c5,List.mem_append];rcases h with h|h
  ·left;cases l with
   |nal p ks ep loc E e xs=>simp[aw]at h;simpa[ay]using h
   |np p ks ep a x off=>simp[aw]at h;simpa[ay]using h
   |_=>simp[aw]at h <;> simp[ay,h]
  ·exact .inr (eR h)
theorem l7 (t n:Nat):∀ (j:Nat) (ls:List Leaf) (q:Nat),q∈ay (bu t n j ls)->q=t\/q∈ay ls
 |_,[],_,h=>by simp[bu,ay]at h
 |j,l::ls,q,h=>by
  simp only[bu]at h;rw[c5,List.mem_append]at h;rw[c5,List.mem_append];rcases h with h|h
  ·cases l with
   |own p hh E e xs=>simp[kA,ay]at h;exact .inl h
   |_=>exact .inr (.inl h)
  ·exact (l7 t n (j+1) ls q h).imp id .inr
theorem qa {x:Operand}{q:Nat}(h:q∈aw (ar st x).2):∃ t,x=.tmp t/\(q=t\/q∈aw (st t).ls):=by
 cases x with
 |tmp t =>
  simp only[ar]at h;cases hb:Nat.blt t GH with
  |false=>simp[hb,aw]at h
  |true=>simp only[hb,cond_true]at h;exact⟨t,rfl,l6 _ _ _ _ _ h⟩
 |const v =>
  simp only[ar]at h;split at h
  ·rename_i l hl;unfold gu at hl;split at hl <;> simp at hl <;> subst hl <;> simp[aw]at h
  ·simp[aw]at h
 |func f=>simp[ar,aw]at h
 |global g=>simp[ar,aw]at h
theorem qb {x:Operand}{q:Nat}(h:q∈ay (ar st x).2):∃ t,x=.tmp t/\(q=t\/q∈ay (st t).ls):=by
 cases x with
 |tmp t =>
  simp only[ar]at h;cases hb:Nat.blt t GH with
  |false=>simp[hb,ay]at h
  |true=>simp only[hb,cond_true]at h;exact⟨t,rfl,l7 _ _ _ _ _ h⟩
 |const v =>
  simp only[ar]at h;split at h
  ·rename_i l hl;unfold gu at hl;split at hl <;> simp at hl <;> subst hl <;> simp[ay]at h
  ·simp[ay]at h
 |func f=>simp[ar,ay]at h
 |global g=>simp[ar,ay]at h
theorem pz {x:Operand}{l:Leaf}(h:one st x=l)(hd:l≠.dead):(ar st x).2=[l]:=by
 unfold one at h;split at h
 ·rename_i l' he;rw[he,h]
 ·exact absurd h.symm hd
theorem ik {x:Operand}{q:Nat}(h:q∈aw [one st x]):q∈aw (ar st x).2:=by
 by_cases hd:one st x=.dead
 ·rw[hd]at h;simp[aw]at h
 ·rw[pz rfl hd];exact h
theorem rT {x:Operand}{q:Nat}(h:q∈ay [one st x]):q∈ay (ar st x).2:=by
 by_cases hd:one st x=.dead
 ·rw[hd]at h;simp[ay]at h
 ·rw[pz rfl hd];exact h
def iv:Leaf->Bool×Leaf
 |.own _ _ _ e xs=>(true,.ep 0 0 0 e.cells xs.length 0)
 |l=>(false,l)
def bB (c:bM):Nat×aG×List (Bool×Leaf):=(c.ver,c.sh,c.ls.map iv)
theorem rU {l l':Leaf}(h:iv l'=iv l):l'=l\/∃ (p p':Bool) (hh hh':Option (Nat×Nat)) (E E':TypeId) (e e':Ty) (xs:List e.den) (xs':List e'.den),l=.own p hh E e xs/\l'=.own p' hh' E' e' xs'/\e'.cells=e.cells/\xs'.length=xs.length:=by
 cases l <;> cases l' <;> simp only[iv,Prod.mk.injEq,Bool.false_eq_true,reduceCtorEq,false_and,and_false,true_and,Leaf.ep.injEq,Bool.true_eq_false]at h <;>
  first
  |exact .inr ⟨_,_,_,_,_,_,_,_,_,_,rfl,rfl,h.1,h.2.1⟩
  |exact .inr ⟨_,_,_,_,_,_,_,_,_,_,rfl,rfl,h.1,h.2⟩
  |exact .inl rfl
  |exact .inl (by rw[h])
  |exact .inl h
  |(obtain⟨rfl,rfl,rfl,rfl,rfl,rfl⟩:=h;exact .inl rfl)
theorem oL (t n:Nat):∀ (j:Nat) (ls ls':List Leaf),ls'.map iv=ls.map iv->bu t n j ls'=bu t n j ls
 |_,[],[],_=>rfl
 |_,[],_::_,h=>by simp at h
 |_,_::_,[],h=>by simp at h
 |j,l::ls,l'::ls',h=>by
  simp only[List.map_cons,List.cons.injEq]at h;simp only[bu,oL t n (j+1) ls ls' h.2];rcases rU h.1 with e|⟨p,p',hh,hh',E,E',e,e',xs,xs',e1,e2,_,_⟩
  ·rw[e]
  ·rw[e1,e2];rfl
theorem vS {x:Operand}(h:∀ t,x=.tmp t->bB (st' t)=bB (st t)):ar st' x=ar st x:=by
 cases x with
 |tmp t =>
  have:=h t rfl;simp only[bB,Prod.mk.injEq]at this;simp only[ar,this.1,this.2.1,oL _ _ _ _ _ this.2.2]
 |_=>rfl
theorem xB {x:Operand}(h:∀ t,x=.tmp t->bB (st' t)=bB (st t)):one st' x=one st x:=by
 unfold one;rw[vS h]
theorem vT {c c':bM}(h:bB c'=bB c)(j:Nat):iv (c'.ls.getD j .dead)=iv (c.ls.getD j .dead):=by
 simp only[bB,Prod.mk.injEq]at h;have:=congrArg (λl=>l[j]?) h.2.2;simp only[List.getElem?_map]at this;rw[List.getD_eq_getElem?_getD,List.getD_eq_getElem?_getD];generalize c'.ls[j]?=a at this;generalize c.ls[j]?=b at this
 match a,b,this with
 |none,none,_=>rfl
 |some x,some y,h=>exact Option.some.inj h
theorem qc (l:Leaf):kf l=(iv l).1:=by cases l <;> rfl
theorem xg {ks:List (Nat×Nat×Nat)}{ep:Nat}(h:∀ q∈EPO::ks.map (·.1),bB (st' q)=bB (st q)):bj st' ks ep=bj st ks ep:=by
 unfold bj;have hE:=h EPO (List.mem_cons_self ..);simp only[bB,Prod.mk.injEq]at hE;rw[hE.1];congr 1;induction ks with
 |nil=>rfl
 |cons k ks ih =>
  have hk:=h k.1 (by simp);have hv:(st' k.1).ver=(st k.1).ver:=by simp only[bB,Prod.mk.injEq]at hk;exact hk.1
  rw[List.all_cons,List.all_cons,ih (λq hq=>h q (by simp at hq ⊢;rcases hq with hq|hq;exact .inl hq;exact .inr (.inr hq))),qc,qc,vT hk,hv]
end
end Go.Proofs.YtmcbmojdeikcdaaGreatEv
namespace Go.Proofs.YtmcbmojdeikcdaaGreatEv
open Go Go.RowKit
section
variable {P:Program} {V:Env} {Γ:List Ctr} {T:TypeId->TI} {st st':St} {o:Oper} {R:Type} {κ:Upd->Option R} {r:R}
theorem rV {d:Nat}(hd:o.dst=some d)(h:∀ q∈eE st o,st' q=st q):st' d=st d/\st' (B0+d)=st (B0+d):=by
 refine⟨h d ?_,h (B0+d) ?_⟩ <;> simp[eE,xo,hd]
theorem ka {ls:List Leaf}(h:∀ q∈aw ls,st' q=st q):∀ x∈bq st ls,st' x.1=st x.1:=λx hx=>h _ (dP hx)
theorem oM {flds:List (Nat×Nat×Bool)}:∀ (ps:List (Nat×Operand)) (ls:List Leaf),(∀ x∈ps,∀ t,x.2=.tmp t->st' t=st t)->eD st' flds ps ls=eD st flds ps ls
 |[],_,_=>rfl
 |(i,x)::ps,ls,h=>by
  simp only[eD,dw (h (i,x) (List.mem_cons_self ..))];split
  ·rw[oM ps _ (λy hy=>h y (List.mem_cons_of_mem _ hy))]
  ·rfl
theorem mU {e:Ty}:∀ (ps:List (Nat×Operand)) (k:Nat),(∀ x∈ps,(∀ t,x.2=.tmp t->st' t=st t)/\∀ q∈aw (ar st x.2).2,st' q=st q)->dQ st' e k ps=dQ st e k ps
 |[],_,_=>rfl
 |(i,x)::ps,k,h=>by
  have h1:=h (i,x) (List.mem_cons_self ..);simp only[dQ,dw h1.1,fT h1.2,mU ps (k+1) (λy hy=>h y (List.mem_cons_of_mem _ hy))]
theorem mV {e:Ty}:∀ (ps:List (Nat×Operand)) (k:Nat) (u:cq (List e.den)),dQ st e k ps=some u->∀ z,z∈u.frz\/z∈u.kill->∃ x∈ps,z.1∈aw (ar st x.2).2
 |[],_,_,h=>by simp only[dQ,Option.some.injEq]at h;subst h;simp
 |(i,x)::ps,k,u,h=>by
  simp only[dQ]at h;cases hb:Nat.beq i k&&decide ((ar st x).1=be e.isAgg) with
  |false=>simp[hb]at h
  |true =>
   simp only[hb,cond_true]at h;split at h
   ·rename_i t1 u1 hg hbe;simp only[Option.some.injEq]at h;subst h;intro z hz;obtain⟨p1,p2⟩:=gU hg;have hmem:(z∈t1.frz\/z∈t1.kill)\/(z∈u1.frz\/z∈u1.kill):=by
     rcases hz with hz|hz <;> rcases List.mem_append.1 hz with hz|hz
     ·exact .inl (.inl hz)
     ·exact .inr (.inl hz)
     ·exact .inl (.inr hz)
     ·exact .inr (.inr hz)
    rcases hmem with hz|hz
    ·exact⟨(i,x),List.mem_cons_self ..,hz.elim (p1 z) (p2 z)⟩
    ·obtain⟨y,hy,h2⟩:=mV ps (k+1) u1 hbe z hz;exact⟨y,List.mem_cons_of_mem _ hy,h2⟩
   ·cases h
theorem l8 {x:Option Operand}{n:Int}(h:∀ y,x=some y->∀ t,y=.tmp t->st' t=st t):cN st' x n=cN st x n:=by
 cases x with
 |none=>rfl
 |some y=>simp only[cN,dg (h y rfl)]
theorem tu:∀ (xs:List Operand) (acc:Option (List Nat)),(∀ x∈xs,∀ t,x=.tmp t->st' t=st t) ->
  xs.foldl (λ (acc:Option (List Nat)) x=>acc.bind λl=>match one st' x with|.bp b 0=>some (l++[b])|_=>none) acc =
  xs.foldl (λ (acc:Option (List Nat)) x=>acc.bind λl=>match one st x with|.bp b 0=>some (l++[b])|_=>none) acc
 |[],_,_=>rfl
 |x::xs,acc,h=>by
  simp only[List.foldl_cons,dg (h x (List.mem_cons_self ..))];exact tu xs _ (λy hy=>h y (List.mem_cons_of_mem _ hy))
theorem oN {l:Leaf}(hT:st' TMP=st TMP)(hE:st' EPO=st EPO)(h:∀ q∈aw [l],st' q=st q):ca st' l=ca st l:=by
 cases l with
 |nal p ks ep loc E e xs =>
  rw[gp]at h;simp only[ca,iE h,hT,hE];congr 1
  match ks,loc,h with
  |[(r,j,n)],some (i,sz,off),h =>
   have hr:=h r (by simp);simp only[hr]
  |[(r,j,n)],none,_=>rfl
  |[],_,_=>rfl
  |_::_::_,_,_=>rfl
 |_=>rfl
theorem mW {l l':Leaf}{U:Upd}(h:ca st l=some (U,l')):∃ n,l'=.al TMP 0 n/\∀ q,q≠TMP->∀ z∈ay (ac U st q).ls,z∈ay (st q).ls:=by
 cases l with
 |nal p ks ep loc E e xs =>
  simp only[ca]at h;cases hvk:bj st ks ep with
  |false=>simp[hvk]at h
  |true =>
   rw[hvk]at h;simp only[cond_true]at h;split at h
   ·rename_i r j n0 i sz off;split at h
    ·rename_i p' E' e' xs' hg;cases hb:!Nat.beq r TMP&&!Nat.beq r EPO&&Nat.beq sz e'.cells with
     |false=>simp[hb]at h
     |true =>
      rw[hb]at h;simp only[cond_true]at h;split at h
      ·split at h
       ·rename_i y _ _ _ _ _;simp only[Option.some.injEq,Prod.mk.injEq]at h;obtain⟨rfl,rfl⟩:=h;refine⟨_,rfl,λq hq z hz=>?_⟩;rw[aN]at hz;rcases am r q ⟨(st r).ver,(st r).sh,aQ (st r).ls j (.own p' (some (i,off)) E' e' xs')⟩ (ac [(TMP,⟨(st TMP).ver+1,.one,[.own (p'&&e'.shy) none _ _ _]⟩),(EPO,bN (st EPO))] st) with ⟨rfl,e0⟩|⟨_,e0⟩
        ·rw[e0]at hz;exact refs_set hz
        ·rw[e0,aN,aI hq]at hz;rcases am EPO q (bN (st EPO)) st with ⟨rfl,e1⟩|⟨_,e1⟩ <;> rw[e1]at hz <;> exact hz
       ·cases h
      ·cases h
    ·cases h
   ·cases h
 |_=>simp[ca]at h
where
 refs_set {ls:List Leaf} {j z:Nat} {p:Bool} {hh:Option (Nat×Nat)} {E:TypeId} {e:Ty} {xs:List e.den} (h:z∈ay (aQ ls j (.own p hh E e xs))):z∈ay ls:=by
  unfold aQ at h;induction ls generalizing j with
  |nil=>simpa using h
  |cons l ls ih =>
   cases j with
   |zero =>
    rw[List.set_cons_zero,c5,List.mem_append]at h;rw[c5,List.mem_append];rcases h with h|h
    ·simp[ay]at h
    ·exact .inr h
   |succ j =>
    rw[List.set_cons_succ,c5,List.mem_append]at h;rw[c5,List.mem_append];exact h.imp id ih
theorem sI {l l':Leaf}{U:Upd}(h:ca st l=some (U,l')):ay (ac U st TMP).ls=[]:=by
 cases l with
 |nal p ks ep loc E e xs =>
  simp only[ca]at h;cases hvk:bj st ks ep with
  |false=>simp[hvk]at h
  |true =>
   rw[hvk]at h;simp only[cond_true]at h;split at h
   ·rename_i r j n0 i sz off;split at h
    ·rename_i p' E' e' xs' hg;cases hb:!Nat.beq r TMP&&!Nat.beq r EPO&&Nat.beq sz e'.cells with
     |false=>simp[hb]at h
     |true =>
      rw[hb]at h;simp only[cond_true]at h;have hrT:TMP≠r:=λe=>by subst e;simp at hb
      split at h
      ·split at h
       ·simp only[Option.some.injEq,Prod.mk.injEq]at h;obtain⟨rfl,rfl⟩:=h;rw[aN,aI hrT,aN,bg];rfl
       ·cases h
      ·cases h
    ·cases h
   ·cases h
 |_=>simp[ca]at h
theorem uy {E:TypeId}{e:Ty}{y:Leaf}(hy:∀ q∈aw [y],st' q=st q):e8 st' E e y=e8 st E e y:=by
 unfold e8;rw[b6 hy,ig hy,fT hy]
theorem uz {E:TypeId}{e:Ty}{y:Leaf}{t:cq (List e.den)}(h:e8 st E e y=some t):(∀ z∈t.frz,z.1∈aw [y])/\∀ z∈t.kill,z.1∈aw [y]:=by
 unfold e8 at h;cases hf:e.flat with
 |true =>
  rw[hf]at h;simp only[cond_true,Option.map_eq_some_iff]at h;obtain⟨_,_,rfl⟩:=h;exact⟨by simp,by simp⟩
 |false =>
  rw[hf]at h;simp only[cond_false]at h;cases hs:decide (e.sh=e) with
  |true =>
   rw[hs]at h;simp only[cond_true,Option.map_eq_some_iff]at h;obtain⟨_,_,rfl⟩:=h;exact⟨λz hz=>dP hz,by simp⟩
  |false =>
   rw[hs]at h;simp only[cond_false,Option.map_eq_some_iff]at h;obtain⟨t',ht,rfl⟩:=h;exact gU ht
theorem kb {U0:Upd}{d:Nat}{E:TypeId}{e:Ty}{bytes:Nat}{p:Bool}{xs:List e.den}{ks:List (Nat×Nat)}{y:Leaf}(hks:∀ z∈ks,st' z.1=st z.1)(hy:∀ q∈aw [y],st' q=st q)(hd:st' d=st d) :
  dx st' (ac U0 st') U0 d E e bytes p xs ks y κ=dx st (ac U0 st) U0 d E e bytes p xs ks y κ:=by
 unfold dx;have h0:∀ q,st' q=st q->ac U0 st' q=ac U0 st q:=λq h=>bh h U0
 rw[uy (st:=ac U0 st) (st':=ac U0 st') (λq hq=>h0 q (hy q hq))];split
 ·rename_i t ht;obtain⟨p1,p2⟩:=uz ht;have e1:aE (ac U0 st') t.frz=aE (ac U0 st) t.frz:=jb (λz hz=>h0 _ (hy _ (p1 z hz)));have e2:∀ U:Upd,aM (ac U (ac U0 st')) (t.kill++ks)=aM (ac U (ac U0 st)) (t.kill++ks):=λU=>gq (λz hz=>bh (h0 _ ((List.mem_append.1 hz).elim (λhz=>hy _ (p2 z hz)) (hks z))) U)
  simp only[e1,e2,tt hd]
 ·rfl
theorem uA {U0:Upd}{d:Nat}{E:TypeId}{e:Ty}{bytes:Nat}{x y:Leaf}(hx:∀ q∈aw [x],st' q=st q)(hy:∀ q∈aw [y],st' q=st q)(hd:st' d=st d):dM st' U0 d E e bytes x y κ=dM st U0 d E e bytes x y κ:=by
 unfold dM;cases x with
 |al r j v =>
  have hr:st' r=st r:=hx r (by simp[aw]);simp only;rw[b6 (st:=ac U0 st) (st':=ac U0 st') (l:=.al r j v) (λq hq=>bh (hx q hq) U0)];split
  ·rw[kb (λz hz=>by simp at hz;subst hz;exact hr) hy hd]
  ·rfl
 |nil=>exact kb (by simp) hy hd
 |_=>rfl
theorem uB {d:Nat}{E:TypeId}{e:Ty}{bytes:Nat}{x y:Leaf}(hT:st' TMP=st TMP)(hx:∀ q∈aw [x],st' q=st q)(hy:∀ q∈aw [y],st' q=st q)(hd:st' d=st d):gw st' d E e bytes x y κ=gw st d E e bytes x y κ:=by
 unfold gw;rw[uA hx hy hd,gb,gb];cases hn:im x with
 |false=>rfl
 |true =>
  simp only[cond_true];have hE:st' EPO=st EPO:=by
   cases x with
   |nal p ks ep loc E e xs=>exact hx EPO (by rw[gp];exact List.mem_cons_self ..)
   |_=>simp[im]at hn
  rw[oN hT hE hx];cases hu:ca st x with
  |none=>rfl
  |some u =>
   obtain⟨n,e1,_⟩:=mW (U:=u.1) (l':=u.2) hu;simp only[Option.bind_some];rw[e1];unfold dM;simp only;have e2:∀ q,q=TMP->ac u.1 st' q=ac u.1 st q:=λq hq=>by rw[hq];exact bh hT u.1
   rw[b6 (st:=ac u.1 st) (st':=ac u.1 st') (l:=.al TMP 0 n) (λq hq=>e2 q (by simpa[aw]using hq))];split
   ·rw[kb (λz hz=>by simp at hz;subst hz;exact hT) hy hd]
   ·rfl
structure d7 (st st':St) (ls:List Leaf):Prop where
 d1:∀ q∈ay ls,st' q=st q
 d2:∀ r∈ay ls,∀ q∈ay (st r).ls,st' q=st q
 d3:∀ r∈ay ls,∀ r2∈ay (st r).ls,∀ q∈ay (st r2).ls,st' q=st q
theorem jt (p:Bool):∀ (a:Ty) (x:a.den),ay (co p a x)=[]
 |.int _,_=>rfl
 |.bool,_=>rfl
 |.str,_=>rfl
 |.unit,_=>rfl
 |.hdr,_=>rfl
 |.pair a b,x=>by simp[co,j9,jt p a,jt p b]
 |.list _ _ _,_=>rfl
theorem qd {l:Leaf}(h:∀ q∈ay [l],st' q=st q):target st' l=target st l:=by
 unfold target;cases l with
 |bp b off =>
  have hb:=h b (by simp[ay]);cases off with
  |zero=>simp only[hb]
  |succ n=>rfl
 |rp p a x off=>cases off <;> rfl
 |_=>rfl
theorem kc {l:Leaf}{ls:List Leaf}(h:target st l=some ls):∀ q∈ay ls,q∈ay [l]\/∃ r∈ay [l],q∈ay (st r).ls:=by
 unfold target at h;split at h
 ·rename_i b;cases hb:decide ((st b).sh=.agg) with
  |false=>simp[hb]at h
  |true =>
   simp only[hb,cond_true,Option.some.injEq]at h;subst h;intro q hq;rcases l7 _ _ _ _ _ hq with rfl|hq
   ·exact .inl (by simp[ay])
   ·exact .inr ⟨b,by simp[ay],hq⟩
 ·simp only[Option.some.injEq]at h;subst h;intro q hq;rw[jt]at hq;simp at hq
 ·simp only[Option.some.injEq]at h;subst h;intro q hq;simp[ay]at hq
 ·cases h
theorem gV {x:aG×List Leaf}{q:Nat}(h:q∈ay [cb x]):q∈ay x.2:=by
 unfold cb at h;split at h
 ·exact h
 ·simp[ay]at h
theorem d7.target {l:Leaf}{ls:List Leaf}(h:d7 st st' [l])(ht:Go.Proofs.YtmcbmojdeikcdaaGreatEv.target st l=some ls):(∀ q∈ay ls,st' q=st q)/\∀ r∈ay ls,∀ q∈ay (st r).ls,st' q=st q:=by
 constructor
 ·intro q hq;rcases kc ht q hq with h1|⟨r,h1,h2⟩
  ·exact h.d1 q h1
  ·exact h.d2 r h1 q h2
 ·intro r hr q hq;rcases kc ht r hr with h1|⟨r',h1,h2⟩
  ·exact h.d2 r h1 q hq
  ·exact h.d3 r' h1 r h2 q hq
theorem d7.one {x:aG×List Leaf}(h:d7 st st' x.2):d7 st st' [cb x] :=
 ⟨λq hq=>h.d1 q (gV hq),λr hr=>h.d2 r (gV hr),λr hr=>h.d3 r (gV hr)⟩
def l9 {α:Type}(st st':St)(g:Got α):Prop:=(∀ z∈g.frz,st' z.1=st z.1)/\(∀ z∈g.kill,st' z.1=st z.1)
theorem ma {c:Bool×Ty}{l:Leaf}(h1:d7 st st' [l]):eC st' c l=eC st c l/\∀ g,eC st c l=some g->l9 st st' g:=by
 unfold eC;rw[qd h1.d1];cases ht:target st l with
 |none=>cases c.1 <;> exact⟨rfl,by simp⟩
 |some ls =>
  have h2:=h1.target ht;cases hc:c.1 with
  |false =>
   have h3:∀ q∈aw ls,st' q=st q:=λq hq=>h2.1 q (eR hq)
   simp only[cond_false,dW h3,ig h3,true_and];intro g hg;simp only[Option.map_eq_some_iff]at hg;obtain⟨_,_,rfl⟩:=hg;exact⟨ka h3,by simp[Got.ofRd]⟩
  |true =>
   simp only[cond_true]
   match ls,h2,ht with
   |[],_,_=>exact⟨rfl,by simp⟩
   |_::_::_,_,_=>exact⟨rfl,by simp⟩
   |[l'],h2,ht =>
    simp only[qd h2.1];cases ht':target st l' with
    |none=>exact⟨rfl,by simp⟩
    |some ls' =>
     have h3:∀ q∈aw ls',st' q=st q:=by
      intro q hq;rcases kc ht' q (eR hq) with h4|⟨r,h4,h5⟩
      ·exact h2.1 q h4
      ·exact h2.2 r h4 q h5
     simp only[dW h3,ig h3,true_and];intro g hg;simp only[Option.map_eq_some_iff]at hg;obtain⟨_,_,rfl⟩:=hg;exact⟨ka h3,by simp[Got.ofRd]⟩
theorem lf:∀ (cs:List (Bool×Ty)) (ls:List Leaf),(∀ l∈ls,d7 st st' [l])->cf st' cs ls=cf st cs ls/\∀ g,cf st cs ls=some g->l9 st st' g
 |[],[],_=>⟨rfl,λg hg=>by simp only[cf,Option.some.injEq]at hg;subst hg;exact⟨by simp,by simp⟩⟩
 |[],_::_,_=>⟨rfl,λg hg=>by simp[cf]at hg⟩
 |_::_,[],_=>⟨rfl,λg hg=>by simp[cf]at hg⟩
 |c::cs,l::ls,h=>by
  obtain⟨h1,h2⟩:=ma (c:=c) (h l (List.mem_cons_self ..));obtain⟨h3,h4⟩:=lf cs ls (λy hy=>h y (List.mem_cons_of_mem _ hy));simp only[cf,h1,h3,true_and];intro g hg;split at hg
  ·rename_i g1 hg1;split at hg
   ·rename_i g2 hg2;simp only[Option.some.injEq]at hg;subst hg;exact⟨λz hz=>(List.mem_append.1 hz).elim ((h2 g1 hg1).1 z) ((h4 g2 hg2).1 z),by simp⟩
   ·cases hg
  ·cases hg
theorem mX {c:Nat}{q:Nat}:∀ {ls:List Leaf} {c:Nat},q∈aw (aQ ls c .nil)->q∈aw ls
 |[],_,h=>h
 |l::ls,0,h=>by
  rw[show aQ (l::ls) 0 .nil=.nil::ls from rfl,aL,List.mem_append]at h;rw[aL,List.mem_append];rcases h with h|h
  ·simp[aw]at h
  ·exact .inr h
 |l::ls,c+1,h=>by
  rw[show aQ (l::ls) (c+1) .nil=l::aQ ls c .nil from rfl,aL,List.mem_append]at h;rw[aL,List.mem_append];exact h.imp id (mX (c:=c))
theorem nG {caps:List Nat}{f:FuncId}(h1:d7 st st' [.clo f caps]):∀ l∈caps.map (λb=>Leaf.bp b 0),d7 st st' [l]:=by
 intro l hl;obtain⟨b,hb,rfl⟩:=List.mem_map.1 hl;have hcap:b∈ay [Leaf.clo f caps]:=by simp[ay,hb]
 have hbb:∀ r∈ay [Leaf.bp b 0],r=b:=λr hr=>by simpa[ay]using hr
 exact⟨λq hq=>h1.d1 q (by rw[hbb q hq];exact hcap),λr hr=>h1.d2 r (by rw[hbb r hr];exact hcap),λr hr=>h1.d3 r (by rw[hbb r hr];exact hcap)⟩
theorem mb {caps:List (Bool×Bool×(a:Ty)×a.den)}:∀ l∈caps.map d8,d7 st st' [l]:=by
 intro l hl;obtain⟨c,hc,rfl⟩:=List.mem_map.1 hl;have:∀ q,q∉ay [d8 c]:=by
  intro q hq;unfold d8 at hq;cases hcc:c.2.1 <;> rw[hcc]at hq <;> simp[ay]at hq
 exact⟨λq hq=>absurd hq (this q),λq hq=>absurd hq (this q),λq hq=>absurd hq (this q)⟩
theorem dL {pk:PK}{x:aG×List Leaf}(h:d7 st st' x.2):bc st' pk x=bc st pk x/\∀ g,bc st pk x=some g->l9 st st' g:=by
 have hx:∀ q∈aw x.2,st' q=st q:=λq hq=>h.d1 q (eR hq)
 have h1:=h.one;have taking:∀ {b:Bool} {a:Ty} {g:Got a.den},(bif b then (bZ st a x.2).map (λt=>(⟨t.p,t.val,t.frz,t.kill,[],[]⟩:Got a.den)) else none)=some g->l9 st st' g:=by
  intro b a g hg;cases b with
  |false=>simp at hg
  |true =>
   simp only[cond_true,Option.map_eq_some_iff]at hg;obtain⟨t,ht,rfl⟩:=hg;obtain⟨p1,p2⟩:=gU ht;exact⟨λz hz=>hx _ (p1 z hz),λz hz=>hx _ (p2 z hz)⟩
 cases pk with
 |rd a =>
  simp only[bc,dW hx,ig hx,true_and];intro g hg;cases hb:decide (x.1=be a.isAgg) with
  |false=>simp[hb]at hg
  |true =>
   simp only[hb,cond_true,Option.map_eq_some_iff]at hg;obtain⟨y,_,rfl⟩:=hg;exact⟨ka hx,by simp[Got.ofRd]⟩
 |own a =>
  simp only[bc,fT hx,true_and];exact λg hg=>taking hg
 |io a =>
  simp only[bc,fT hx,true_and];exact λg hg=>taking hg
 |rref a=>exact ma (c:=(false,a)) h1
 |rref2 a=>exact ma (c:=(true,a)) h1
 |iop a =>
  simp only[bc];split
  ·rename_i b hlf;rw[hlf]at h1;have hb:=h1.d1 b (by simp[ay]);have h3:∀ q∈aw (bu b (st b).ver 0 (st b).ls),st' q=st q:=by
    intro q hq;rcases l6 _ _ _ _ _ hq with rfl|hq
    ·exact hb
    ·exact h1.d2 b (by simp[ay]) q (eR hq)
   simp only[hb,fT h3,true_and];intro g hg;cases hbb:decide ((st b).sh=.agg) with
   |false=>simp[hbb]at hg
   |true =>
    simp only[hbb,cond_true,Option.map_eq_some_iff]at hg;obtain⟨t,ht,rfl⟩:=hg;obtain⟨p1,p2⟩:=gU ht;exact⟨λz hz=>h3 _ (p1 z hz),λz hz=>h3 _ (p2 z hz)⟩
  ·exact⟨rfl,by simp⟩
 |fn As B =>
  simp only[bc,true_and];intro g hg;split at hg
  ·split at hg
   ·simp only[Option.some.injEq]at hg;subst hg;exact⟨by simp,by simp⟩
   ·cases hg
  ·cases hg
 |clo f cs =>
  simp only[bc];split
  ·rename_i f' caps hlf;rw[hlf]at h1;have:=lf cs _ (nG h1);rw[this.1];refine⟨rfl,λg hg=>?_⟩;cases hb:Nat.beq f' f with
   |false=>simp[hb]at hg
   |true=>rw[hb]at hg;exact this.2 g hg
  ·rename_i f' caps hlf;have:=lf (st:=st) (st':=st') cs _ (mb (caps:=caps));rw[this.1];refine⟨rfl,λg hg=>?_⟩;cases hb:Nat.beq f' f with
   |false=>simp[hb]at hg
   |true=>rw[hb]at hg;exact this.2 g hg
  ·exact⟨rfl,by simp⟩
 |hol a c off =>
  simp only[bc];have hset:∀ q∈aw (aQ x.2 c .nil),st' q=st q:=λq hq=>hx q (mX (c:=c) hq)
  rw[fT hset];cases hb:decide (x.1=be a.isAgg) with
  |false=>exact⟨rfl,by simp⟩
  |true =>
   simp only[cond_true];split
   ·rename_i r j v hal;have hlc:x.2[c]?=some (.al r j v):=by
     rw[List.getD_eq_getElem?_getD]at hal;cases hq:x.2[c]? with
     |none=>rw[hq]at hal;simp at hal
     |some l0=>rw[hq]at hal;simp at hal;rw[hal]
    have hr:=λq hq=>hx q (pu hlc q hq)
    rw[b6 hr];refine⟨rfl,λg hg=>?_⟩;split at hg
    ·rename_i p i o' E e xs _;cases hbo:Nat.beq o' off with
     |false=>simp[hbo]at hg
     |true =>
      rw[hbo]at hg;simp only[cond_true]at hg;split at hg
      ·rename_i t ht;split at hg
       ·simp only[Option.some.injEq]at hg;subst hg;obtain⟨p1,p2⟩:=gU ht;refine⟨λz hz=>hset _ (p1 z hz),λz hz=>?_⟩;rcases List.mem_cons.1 hz with rfl|hz
        ·exact hr r (by simp[aw])
        ·exact hset _ (p2 z hz)
       ·cases hg
      ·cases hg
    ·cases hg
   ·exact⟨rfl,by simp⟩
theorem ju {ga ga':(pk:PK)->aG×List Leaf->Option (Got pk.den)}:∀ (ps:List PK) (xs:List (aG×List Leaf)),
  (∀ x∈xs,∀ pk,ga' pk x=ga pk x/\∀ g,ga pk x=some g->l9 st st' g) ->
  a7 ga' ps xs=a7 ga ps xs/\∀ g,a7 ga ps xs=some g->l9 st st' g
 |[],[],_=>⟨rfl,λg hg=>by simp only[a7,Option.some.injEq]at hg;subst hg;exact⟨by simp,by simp⟩⟩
 |[],_::_,_=>⟨rfl,λg hg=>by simp[a7]at hg⟩
 |_::_,[],_=>⟨rfl,λg hg=>by simp[a7]at hg⟩
 |p::ps,x::xs,h=>by
  obtain⟨h1,h2⟩:=h x (List.mem_cons_self ..) p;obtain⟨h3,h4⟩:=ju ps xs (λy hy=>h y (List.mem_cons_of_mem _ hy));simp only[a7,h1,h3,true_and];intro g hg;split at hg
  ·rename_i g1 hg1;split at hg
   ·rename_i g2 hg2;simp only[Option.some.injEq]at hg;subst hg;exact⟨λz hz=>(List.mem_append.1 hz).elim ((h2 g1 hg1).1 z) ((h4 g2 hg2).1 z),λz hz=>(List.mem_append.1 hz).elim ((h2 g1 hg1).2 z) ((h4 g2 hg2).2 z)⟩
   ·cases hg
  ·cases hg
theorem rW {As:List Ty}{B:Ty}{f:FuncId}{ls:List Leaf}(h:∀ l∈ls,d7 st st' [l]):jx Γ st' As B f ls=jx Γ st As B f ls/\∀ g,jx Γ st As B f ls=some g->l9 st st' g:=by
 have hargs:=λ (q:List PK)=>ju (st:=st) (st':=st') (ga:=bc st) (ga':=bc st') q (ls.map λl=>(aG.one,[l])) (λy hy pk=>by
  obtain⟨l,hl,rfl⟩:=List.mem_map.1 hy;exact dL (h l hl))
 unfold jx;split
 ·rename_i c hc;unfold qt;simp only[sL,(hargs _).1,true_and];intro g hg;split at hg
  ·cases hb:(c.ps.drop As.length).all PK.reads&&B.flat&&c.fresh with
   |false=>simp[hb]at hg
   |true =>
    simp only[hb,cond_true]at hg;split at hg
    ·rename_i g0 hg0;simp only[Option.some.injEq]at hg;subst hg;exact⟨((hargs _).2 g0 hg0).1,by simp⟩
    ·cases hg
  ·cases hg
 ·exact⟨rfl,by simp⟩
theorem uC {pk:PK}{x:aG×List Leaf}(h:d7 st st' x.2):bT Γ st' pk x=bT Γ st pk x/\∀ g,bT Γ st pk x=some g->l9 st st' g:=by
 cases pk with
 |fn As B =>
  simp only[bT];split
  ·rename_i fc hfc;have hx:(∃ caps,cb x=.clo fc.1 caps/\fc.2=caps.map λb=>Leaf.bp b 0)\/∃ caps,cb x=.clr fc.1 caps/\fc.2=caps.map d8:=by
    generalize cb x=l at hfc;cases l <;> simp only[tD,Option.some.injEq,reduceCtorEq]at hfc
    ·subst hfc;exact .inl ⟨_,rfl,rfl⟩
    ·subst hfc;exact .inr ⟨_,rfl,rfl⟩
   have h1:=h.one;rcases hx with ⟨caps,hx,he⟩|⟨caps,hx,he⟩
   ·rw[hx]at h1;rw[he];exact rW (nG h1)
   ·rw[he];exact rW mb
  ·exact dL h
 |rd a=>exact dL (pk:=.rd a) h
 |own a=>exact dL (pk:=.own a) h
 |io a=>exact dL (pk:=.io a) h
 |rref a=>exact dL (pk:=.rref a) h
 |rref2 a=>exact dL (pk:=.rref2 a) h
 |iop a=>exact dL (pk:=.iop a) h
 |clo f cs=>exact dL (pk:=.clo f cs) h
 |hol a c off=>exact dL (pk:=.hol a c off) h
theorem rX:∀ (xl ls:List Leaf),st' EPO=st EPO->(∀ q∈ay xl,st' q=st q)->bS st' xl ls=bS st xl ls
 |[],_,_,_=>by simp[bS]
 |x::xl,[],_,_=>by cases x <;> simp[bS]
 |x::xl,l::ls,hE,h=>by
  have ih:=rX xl ls hE (λq hq=>h q (by rw[c5];exact List.mem_append_right _ hq));cases x with
  |al r j v =>
   have hr:st' r=st r:=h r (by simp[ay]);simp only[bS,ih,bh hr,bh hE]
  |_=>simp only[bS,ih]
theorem oO {p:Bool}:∀ (ps:List PK) (xs:List (aG×List Leaf)) (y:aj ps),st' EPO=st EPO->(∀ x∈xs,∀ q∈ay x.2,st' q=st q)->aF st' p ps xs y=aF st p ps xs y
 |[],_,_,_,_=>by simp[aF]
 |pk::ps,[],y,_,h=>by cases pk <;> simp[aF]
 |pk::ps,x::xs,y,hE,h=>by
  have ih:=λ (y:aj ps)=>oO (p:=p) ps xs y hE (λz hz=>h z (List.mem_cons_of_mem _ hz))
  have hx:=h x (List.mem_cons_self ..);cases pk with
  |io a =>
   simp only[aF,ih];rw[rX x.2 _ (bh hE _) (λq hq=>bh (hx q hq) _)]
  |iop a =>
   simp only[aF,ih];have hl:∀ q∈ay [cb x],st' q=st q:=λq hq=>hx q (gV hq)
   congr 1;split
   ·rename_i b v hlf;rw[hlf]at hl;rw[bh (hl b (by simp[ay]))]
   ·rfl
  |_=>exact ih _
theorem oP {n q:Nat}:∀ {ls:List Leaf} {k:Nat},q∈ay (aQ ls k (.al TMP 0 n))->q∈ay ls\/q=TMP
 |[],_,h=>.inl h
 |l::ls,0,h=>by
  rw[show aQ (l::ls) 0 (.al TMP 0 n)=.al TMP 0 n::ls from rfl,c5,List.mem_append]at h;rw[c5,List.mem_append];rcases h with h|h
  ·simp[ay]at h;exact .inr h
  ·exact .inl (.inr h)
 |l::ls,k+1,h=>by
  rw[show aQ (l::ls) (k+1) (.al TMP 0 n)=l::aQ ls k (.al TMP 0 n) from rfl,c5,List.mem_append]at h;rw[c5,List.mem_append];rcases h with h|h
  ·exact .inl (.inl h)
  ·exact (oP h).imp .inr id
theorem nH {U:Upd}{ls0 ls:List Leaf}(hT:st' TMP=st TMP)(hsub:∀ q,q≠TMP->∀ z∈ay (ac U st q).ls,z∈ay (st q).ls)(htmp:ay (ac U st TMP).ls=[])(hx:d7 st st' ls0)(hin:∀ q∈ay ls,q∈ay ls0\/q=TMP) :
  d7 (ac U st) (ac U st') ls:=by
 have hne:∀ r z,z∈ay (ac U st r).ls->r≠TMP:=λr z hz e=>by subst e;rw[htmp]at hz;simp at hz
 refine⟨λq hq=>?_,λr hr q hq=>?_,λr hr r2 hr2 q hq=>?_⟩
 ·rcases hin q hq with h|h
  ·exact bh (hx.d1 q h) U
  ·subst h;exact bh hT U
 ·have h1:=hne r q hq;exact bh (hx.d2 r ((hin r hr).resolve_right h1) q (hsub r h1 q hq)) U
 ·have h1:=hne r r2 hr2;have h2:=hne r2 q hq;exact bh (hx.d3 r ((hin r hr).resolve_right h1) r2 (hsub r h1 r2 hr2) q (hsub r2 h2 q hq)) U
theorem mY (hT:st' TMP=st TMP)(hE:st' EPO=st EPO):∀ (ps:List PK) (xs:List (aG×List Leaf)),(∀ x∈xs,d7 st st' x.2)->cF st' ps xs=cF st ps xs /\
  ∀ (U:Upd) (ys:List (aG×List Leaf)) (b:Option (Bool×Nat×Nat)),cF st ps xs=some (U,ys,b)->(∀ y∈ys,d7 (ac U st) (ac U st') y.2)/\(∀ f r j,b=some (f,r,j)->st' r=st r)/\∀ ls,d7 st st' ls->d7 (ac U st) (ac U st') ls
 |[],xs,h=>⟨rfl,λU ys b hn=>by
   simp only[cF,Option.some.injEq,Prod.mk.injEq]at hn;obtain⟨rfl,rfl,rfl⟩:=hn;exact⟨h,(λ_ _ _ h=>by cases h),λ_ h=>h⟩⟩
 |_::_,[],h=>⟨rfl,λU ys b hn=>by
   simp only[cF,Option.some.injEq,Prod.mk.injEq]at hn;obtain⟨rfl,rfl,rfl⟩:=hn;exact⟨h,(λ_ _ _ h=>by cases h),λ_ h=>h⟩⟩
 |p::ps,x::xs,h=>by
  have hx:=h x (List.mem_cons_self ..);obtain⟨i1,i2⟩:=mY hT hE ps xs (λy hy=>h y (List.mem_cons_of_mem _ hy));simp only[cF];cases hk:p.nest x.2 with
  |none =>
   simp only[i1,true_and];intro U ys b hn;simp only[Option.map_eq_some_iff]at hn;obtain⟨u,hu,hn⟩:=hn;simp only[Prod.mk.injEq]at hn;obtain⟨rfl,rfl,rfl⟩:=hn;obtain⟨j1,j2,j3⟩:=i2 u.1 u.2.1 u.2.2 hu;refine⟨λy hy=>?_,j2,j3⟩;rcases List.mem_cons.1 hy with rfl|hy
   ·exact j3 _ hx
   ·exact j1 y hy
  |some k =>
   obtain⟨l,hlk,hnal⟩:=pZ hk;have hg:x.2.getD k .dead=l:=by rw[List.getD_eq_getElem?_getD,hlk];rfl
   have hal:∀ q∈aw [l],st' q=st q:=λq hq=>hx.d1 q (eR (pu hlk q hq))
   simp only[hg,oN hT hE hal,true_and];intro U ys b hn;simp only[Option.map_eq_some_iff]at hn;obtain⟨u,hu,hn⟩:=hn;simp only[Prod.mk.injEq]at hn;obtain⟨rfl,rfl,rfl⟩:=hn;obtain⟨n,e1,hsub⟩:=mW (U:=u.1) (l':=u.2) hu;have htmp:=sI (U:=u.1) (l':=u.2) hu;refine⟨λy hy=>?_,λf r j hb=>?_,λls hls=>nH hT hsub htmp hls (λq hq=>.inl hq)⟩
   ·rcases List.mem_cons.1 hy with rfl|hy
    ·refine nH hT hsub htmp hx λq hq=>?_
     have hq:q∈ay (aQ x.2 k u.2):=hq;rw[e1]at hq;exact oP hq
    ·exact nH hT hsub htmp (h y (List.mem_cons_of_mem _ hy)) (λq hq=>.inl hq)
   ·simp only[Option.some.injEq,Prod.mk.injEq]at hb;have hr:r=(iZ l).1:=by rw[hb.2]
    rw[hr];refine hal _ ?_;cases l with
    |nal p ks ep loc E e xs =>
     cases ks with
     |nil =>
      exfalso;simp only[ca]at hu;cases hv:bj st [] ep <;> simp[hv]at hu
     |cons k ks=>rw[gp];simp[iZ]
    |_=>simp[im]at hnal
theorem xh {b:Option (Bool×Nat×Nat)}{U:Upd}(hT:st' TMP=st TMP)(hE:st' EPO=st EPO)(hb:∀ f r j,b=some (f,r,j)->st' r=st r):iO st' b U κ=iO st b U κ:=by
 unfold iO;split
 ·rename_i r j;rw[bh (hb true r j rfl),bh hT,bh hE]
 ·rfl
theorem rY {d:Nat}{f:FuncId}{xs:List (aG×List Leaf)}(hT:st' TMP=st TMP)(hE:st' EPO=st EPO)(hx:∀ x∈xs,d7 st st' x.2)(hd:st' d=st d)(hB:st' (B0+d)=st (B0+d)):ip Γ st' d f xs κ=ip Γ st d f xs κ:=by
 unfold ip;split
 ·rename_i c hc;obtain⟨n1,n2⟩:=mY hT hE c.ps xs hx;rw[fD,fD,n1];cases hn:cF st c.ps xs with
  |none=>rfl
  |some u =>
   obtain⟨U0,ys,b⟩:=u;obtain⟨m1,m2,_⟩:=n2 U0 ys b hn;simp only[Option.bind_some];have hg:=ju (st:=ac U0 st) (st':=ac U0 st') (ga:=bT Γ (ac U0 st)) (ga':=bT Γ (ac U0 st')) c.ps ys (λx hx' pk=>uC (m1 x hx'));simp only[m9,hg.1];split
   ·rename_i g hgg;obtain⟨h1,h2⟩:=hg.2 g hgg;have hbox:fG st' d c.rs=fG st d c.rs:=by
     unfold fG;split
     ·rw[hB]
     ·rfl
    have hL:∀ q,ac U0 st' q=ac U0 st q->∀ U,ac (U++U0) st' q=ac (U++U0) st q:=λq h U=>by rw[bm,bm];exact bh h U
    have hfz:(bif c.fresh then [] else aE (ac U0 st') g.frz)=(bif c.fresh then [] else aE (ac U0 st) g.frz):=by rw[jb h1]
    have hk:∀ (U:Upd),aM (ac U (ac U0 st')) g.kill=aM (ac U (ac U0 st)) g.kill:=λU=>gq (λz hz=>bh (h2 z hz) U)
    have ho:∀ (U:Upd) (p:Bool) (y:aj c.ps),aF (ac (U++U0) st') p c.ps ys y=aF (ac (U++U0) st) p c.ps ys y:=λU p y =>
     oO c.ps ys y (hL _ (bh hE U0) U) (λx hx' q hq=>hL _ ((m1 x hx').d1 q hq) U)
    have hver:∀ (U:Upd),(g.frz.map λk=>(k.1,k.2,(ac (U++U0) st' k.1).ver))=g.frz.map λk=>(k.1,k.2,(ac (U++U0) st k.1).ver):=λU=>List.map_congr_left λz hz=>by rw[hL _ (h1 z hz) U]
    have hd':∀ U,ac U st' d=ac U st d:=λU=>bh hd U
    have hB':∀ U,ac U st' (B0+d)=ac U st (B0+d):=λU=>bh hB U
    have hE':∀ U,ac U st' EPO=ac U st EPO:=λU=>bh hE U
    simp only[hbox,hfz,hk,ho,hd',hB',hE',<- List.append_assoc,hver,xh hT hE m2]
   ·rfl
 ·rfl
theorem qe:∀ (As:List Ty) (xs:List (aG×List Leaf)),(∀ x∈xs,∀ q∈aw x.2,st' q=st q)->gG st' As xs=gG st As xs
 |[],[],_=>rfl
 |[],_::_,_=>rfl
 |_::_,[],_=>rfl
 |a::As,x::xs,h=>by
  simp only[gG,dW (h x (List.mem_cons_self ..)),qe As xs (λy hy=>h y (List.mem_cons_of_mem _ hy))]
theorem uD {r j i off n:Nat}{p:Bool}{E:TypeId}{e:Ty}{xs:List e.den}{h:Option (Nat×Nat)}{ls:List Leaf}(hr:st' r=st r)(hE:st' EPO=st EPO)(hl:∀ q∈aw ls,st' q=st q):fH st' r j i off n p E e xs h ls κ=fH st r j i off n p E e xs h ls κ:=by
 unfold fH;congr 1;funext old;rw[nE e 0 old ls hl];split
 ·rename_i t ht;obtain⟨p1,p2⟩:=nF e 0 old ls t ht;have e1:aE st' t.frz=aE st t.frz:=jb (λz hz=>hl _ (p1 z hz));have e2:∀ U:Upd,aM (ac U st') t.kill=aM (ac U st) t.kill:=λU=>gq (λz hz=>bh (hl _ (p2 z hz)) U)
  simp only[e1,e2,hr,bh hE]
 ·rfl
end
end Go.Proofs.YtmcbmojdeikcdaaGreatEv
namespace Go.Proofs.YtmcbmojdeikcdaaGreatEv
open Go Go.RowKit
section
variable {P:Program} {V:Env} {Γ:List Ctr} {T:TypeId->TI} {st st':St} {o:Oper} {R:Type} {κ:Upd->Option R} {r:R}
theorem c6 {ts:List Nat}(h:∀ q∈ts++ts.flatMap (λt=>aw (st t).ls),st' q=st q){x:Operand}(hx:∀ t,x=.tmp t->t∈ts):(∀ t,x=.tmp t->st' t=st t)/\∀ q∈aw (ar st x).2,st' q=st q:=by
 refine⟨λt ht=>h t (List.mem_append_left _ (hx t ht)),λq hq=>?_⟩;obtain⟨t,ht,hq⟩:=qa hq;rcases hq with rfl|hq
 ·exact h q (List.mem_append_left _ (hx q ht))
 ·exact h q (List.mem_append_right _ (List.mem_flatMap.2 ⟨t,hx t ht,hq⟩))
theorem mc {ts:List Nat}(h:∀ q∈ts++ts.flatMap (λt=>ay (st t).ls),st' q=st q){x:Operand}(hx:∀ t,x=.tmp t->t∈ts):(∀ t,x=.tmp t->st' t=st t)/\∀ q∈ay (ar st x).2,st' q=st q:=by
 refine⟨λt ht=>h t (List.mem_append_left _ (hx t ht)),λq hq=>?_⟩;obtain⟨t,ht,hq⟩:=qb hq;rcases hq with rfl|hq
 ·exact h q (List.mem_append_left _ (hx q ht))
 ·exact h q (List.mem_append_right _ (List.mem_flatMap.2 ⟨t,hx t ht,hq⟩))
theorem oQ {ts:List Nat}(h:∀ q∈jz st ts,st' q=st q){x:Operand}(hx:∀ t,x=.tmp t->t∈ts):d7 st st' (ar st x).2:=by
 have hts:∀ q,q∈ts->st' q=st q:=λq hq=>h q (by simp[jz];exact .inl hq)
 have ha:∀ q,q∈ts.flatMap (λt=>ay (st t).ls)->st' q=st q:=λq hq=>h q (by
  unfold jz;exact List.mem_append_left _ (List.mem_append_left _ (List.mem_append_right _ hq)))
 have hb:∀ q,q∈(ts.flatMap (λt=>ay (st t).ls)).flatMap (λt=>ay (st t).ls)->st' q=st q:=λq hq=>h q (by
  unfold jz;exact List.mem_append_left _ (List.mem_append_right _ hq))
 have hc:∀ q,q∈((ts.flatMap (λt=>ay (st t).ls)).flatMap (λt=>ay (st t).ls)).flatMap (λt=>ay (st t).ls)->st' q=st q:=λq hq=>h q (by
  unfold jz;exact List.mem_append_right _ hq)
 have l1:∀ r∈ay (ar st x).2,r∈ts\/r∈ts.flatMap (λt=>ay (st t).ls):=by
  intro r hr;obtain⟨t,ht,hq⟩:=qb hr;rcases hq with rfl|hq
  ·exact .inl (hx r ht)
  ·exact .inr (List.mem_flatMap.2 ⟨t,hx t ht,hq⟩)
 have l2:∀ r∈ay (ar st x).2,∀ q∈ay (st r).ls,q∈ts.flatMap (λt=>ay (st t).ls)\/q∈(ts.flatMap (λt=>ay (st t).ls)).flatMap (λt=>ay (st t).ls):=by
  intro r hr q hq;rcases l1 r hr with h1|h1
  ·exact .inl (List.mem_flatMap.2 ⟨r,h1,hq⟩)
  ·exact .inr (List.mem_flatMap.2 ⟨r,h1,hq⟩)
 refine⟨λq hq=>(l1 q hq).elim (hts q) (ha q),λr hr q hq=>(l2 r hr q hq).elim (ha q) (hb q),λr hr r2 hr2 q hq=>?_⟩;rcases l2 r hr r2 hr2 with h1|h1
 ·exact hb q (List.mem_flatMap.2 ⟨r2,h1,hq⟩)
 ·exact hc q (List.mem_flatMap.2 ⟨r2,h1,hq⟩)
theorem ba {xs:Array Operand}{x:Operand}(h:x∈xs):∀ t,x=.tmp t->t∈gy xs.toList:=λt e=>p9 (by rw[<- e];simpa using h)
theorem op_fr (h:∀ q∈eE st o,st' q=st q)(hm:∀ x,o.op≠.move x)(hi:∀ t x i,o.op≠.indexAddr t x i):∀ q∈cd st o.op,st' q=st q:=λq hq=>h q (by
 unfold eE;refine List.mem_append_left _ ?_;cases hop:o.op with
 |move x=>exact absurd hop (hm x)
 |indexAddr t x i=>exact absurd hop (hi t x i)
 |_=>rw[hop]at hq;exact hq)
theorem yx {α β:Type}{xs:List α}{n:Int}{K:Option β}:((idx xs n).bind λ_=>K)=if 0<=n/\n<xs.length then K else none:=by
 unfold idx;by_cases h0:n<0
 ·rw[if_pos h0,if_neg (by omega)];rfl
 ·rw[if_neg h0];by_cases h1:n.toNat<xs.length
  ·rw[List.getElem?_eq_getElem h1,if_pos (by omega)];rfl
  ·rw[List.getElem?_eq_none (by omega),if_neg (by omega)];rfl
theorem zq (h:∀ q∈eE st o,st' q=st q)(hh:∀ q∈eh st o.op,bB (st' q)=bB (st q)):act Γ T o st' κ=act Γ T o st κ:=by
 have hop0:=op_fr h;have hput:∀ (U:Upd) (d:Nat) (sh:aG) (ls:List Leaf),o.dst=some d->ce st' U d sh ls=ce st U d sh ls:=λU d sh ls hd=>tt (rV hd h).1
 have hB:∀ d,o.dst=some d->st' (B0+d)=st (B0+d):=λd hd=>(rV hd h).2
 have hw:∀ (sh:aG) (ls:List Leaf),wrU o st' κ sh ls=wrU o st κ sh ls:=by
  intro sh ls;unfold wrU;split
  ·rename_i d hd;rw[hput _ _ _ _ hd]
  ·rfl
 cases hop:o.op with
 |move x =>
  simp only[hop,eh]at hh;have e:ar st' x=ar st x:=vS λt ht=>hh t (ba (by simp[Op.operands]) t ht)
  simp only[act,hop,e,hw]
 |assign x =>
  have hop':=hop0 (by simp[hop]) (by simp[hop]);simp only[hop,cd]at hop';have hx:=c6 hop' (x:=x) (ba (by simp[Op.operands]));have e:ar st' x=ar st x:=dw hx.1;simp only[act,hop,e,pw hx.2,nD hx.2,rS hx.2];split
  ·rename_i d hd;rw[hput _ _ _ _ hd]
  ·rfl
 |pick c x y =>
  have hop':=hop0 (by simp[hop]) (by simp[hop]);simp only[hop,cd]at hop';have e1:one st' c=one st c:=dg λt ht=>hop' t (ba (by simp[Op.operands]) t ht)
  have e2:ar st' x=ar st x:=dw λt ht=>hop' t (ba (by simp[Op.operands]) t ht)
  have e3:ar st' y=ar st y:=dw λt ht=>hop' t (ba (by simp[Op.operands]) t ht)
  simp only[act,hop,e1,e2,e3,hw]
 |alloc t =>
  simp only[act,hop];split
  ·rename_i d hd;rw[hput _ _ _ _ hd,hB d hd]
  ·rfl
 |box t x =>
  have hop':=hop0 (by simp[hop]) (by simp[hop]);simp only[hop,cd]at hop';have hx:=c6 hop' (x:=x) (ba (by simp[Op.operands]));have e:ar st' x=ar st x:=dw hx.1;have hlent:qG st' x=qG st x:=by cases x <;> first|rfl|(simp only[qG];rw[hx.1 _ rfl])
  simp only[act,hop,e,pw hx.2,nD hx.2,rS hx.2,hlent];split
  ·rename_i d hd;simp only[hput _ _ _ _ hd,hB d hd,bh (hB d hd)]
  ·rfl
 |build t parts =>
  have hop':=hop0 (by simp[hop]) (by simp[hop]);simp only[hop,cd]at hop';have hb:∀ flds ls,eD st' flds parts.toList ls=eD st flds parts.toList ls:=λflds ls=>oM _ _ (λx hx t ht=>hop' t (ba (by simp only[Op.operands,List.mem_toArray,List.mem_map];exact⟨x,hx,rfl⟩) t ht))
  simp only[act,hop,hw,hb]
 |buildSlice t n parts =>
  have hop':=hop0 (by simp[hop]) (by simp[hop]);simp only[hop,cd]at hop';have hx:∀ x∈parts.toList,(∀ t,x.2=.tmp t->st' t=st t)/\∀ q∈aw (ar st x.2).2,st' q=st q:=λx hx =>
   c6 hop' (ba (by simp only[Op.operands,List.mem_toArray,List.mem_map];exact⟨x,hx,rfl⟩))
  simp only[act,hop];split
  ·rw[mU _ _ hx];split
   ·rename_i u hbe;have hpl:=mV _ _ _ hbe;have hst:∀ z,z∈u.frz\/z∈u.kill->st' z.1=st z.1:=λz hz=>by
     obtain⟨x,hx1,hx2⟩:=hpl z hz;exact (hx x hx1).2 _ hx2
    have e1:aE st' u.frz=aE st u.frz:=jb λz hz=>hst z (.inl hz)
    have e2:∀ U:Upd,aM (ac U st') u.kill=aM (ac U st) u.kill:=λU=>gq (λz hz=>bh (hst z (.inr hz)) U)
    simp only[e1,e2];congr 1;split
    ·rename_i d hd;rw[hput _ _ _ _ hd]
    ·rfl
   ·rfl
  ·rfl
 |load t x =>
  have hop':=hop0 (by simp[hop]) (by simp[hop]);simp only[hop,cd]at hop';have hx:=mc hop' (x:=x) (ba (by simp[Op.operands]));have e:one st' x=one st x:=dg hx.1;have hr:∀ q∈ay [one st x],st' q=st q:=λq hq=>hx.2 q (rT hq)
  simp only[act,hop,e,hw];congr 1;split
  ·rfl
  ·rename_i b off hl;rw[hl]at hr;rw[hr b (by simp[ay])]
  ·rfl
  ·rename_i p ks ep a y off hl;rw[hl]at hr;rw[iE (λq hq=>hr q (by simpa[ay]using hq))]
  ·rename_i r j v i sz off hl;rw[hl]at hr;rw[b6 (l:=.al r j v) (λq hq=>hr q (by simp[aw]at hq;simp[ay,hq])),hr EPO (by simp[ay])]
  ·rfl
 |store t x y =>
  have hop':=hop0 (by simp[hop]) (by simp[hop]);simp only[hop,cd]at hop';have hx:=mc hop' (x:=x) (ba (by simp[Op.operands]));have hy:=mc hop' (x:=y) (ba (by simp[Op.operands]));have e:one st' x=one st x:=dg hx.1;have e2:ar st' y=ar st y:=dw hy.1;have hr:∀ q∈ay [one st x],st' q=st q:=λq hq=>hx.2 q (rT hq)
  have hya:∀ q∈aw (ar st y).2,st' q=st q:=λq hq=>hy.2 q (eR hq)
  simp only[act,hop,e,e2,pw hya,nD hya,rS hya];split
  ·rfl
  ·congr 1;split
   ·rename_i b off hl;rw[hl]at hr;have hb:=hr b (by simp[ay]);simp only[hb,bh hb]
   ·rename_i r j v i sz off hl;rw[hl]at hr;have hrr:=hr r (by simp[ay]);rw[b6 (l:=.al r j v) (λq hq=>hr q (by simp[aw]at hq;simp[ay,hq]))];split
    ·rw[uD hrr (hr EPO (by simp[ay])) hya]
    ·rfl
   ·rfl
 |nilCheck x =>
  have hop':=hop0 (by simp[hop]) (by simp[hop]);simp only[hop,cd]at hop';have hx:=c6 hop' (x:=x) (ba (by simp[Op.operands]));have e:one st' x=one st x:=dg hx.1;have hr:∀ q∈aw [one st x],st' q=st q:=λq hq=>hx.2 q (ik hq)
  simp only[act,hop,e,hw];split
  ·rfl
  ·rfl
  ·rename_i r j v i sz off hl;rw[hl]at hr;rw[hr r (by simp[aw])]
  ·rfl
  ·rename_i p ks ep a y off hl;rw[hl,tr]at hr;rw[iE hr]
  ·rfl
 |binOp op t x y t' =>
  have hop':=hop0 (by simp[hop]) (by simp[hop]);simp only[hop,cd]at hop';have hx:=c6 hop' (x:=x) (ba (by simp[Op.operands]));have hy:=c6 hop' (x:=y) (ba (by simp[Op.operands]));have e1:one st' x=one st x:=dg hx.1;have e2:one st' y=one st y:=dg hy.1;have e3:ar st' x=ar st x:=dw hx.1;have e4:ar st' y=ar st y:=dw hy.1;simp only[act,hop,e1,e2,e3,e4,hw,dW hx.2,dW hy.2]
 |unOp op t x =>
  have hop':=hop0 (by simp[hop]) (by simp[hop]);simp only[hop,cd]at hop';have e1:one st' x=one st x:=dg λt ht=>hop' t (ba (by simp[Op.operands]) t ht)
  simp only[act,hop,e1,hw]
 |convert s t x =>
  have hop':=hop0 (by simp[hop]) (by simp[hop]);simp only[hop,cd]at hop';have hx:=c6 hop' (x:=x) (ba (by simp[Op.operands]));have e1:one st' x=one st x:=dg hx.1;have hr:∀ q∈aw [one st x],st' q=st q:=λq hq=>hx.2 q (ik hq)
  simp only[act,hop,e1,hw];split
  ·rfl
  ·rw[b6 hr]
  ·rfl
 |makeSlice t n c =>
  have hop':=hop0 (by simp[hop]) (by simp[hop]);simp only[hop,cd]at hop';have e1:one st' n=one st n:=dg λt ht=>hop' t (ba (by simp[Op.operands]) t ht)
  have e2:one st' c=one st c:=dg λt ht=>hop' t (ba (by simp[Op.operands]) t ht)
  simp only[act,hop,e1,e2,hw]
 |slice t x lo hi mx =>
  have hop':=hop0 (by simp[hop]) (by simp[hop]);simp only[hop,cd]at hop';have hE:=hop' EPO (List.mem_cons_self ..);have hop':=λq hq=>hop' q (List.mem_cons_of_mem _ hq)
  have hx:=c6 hop' (x:=x) (ba (by simp[Op.operands]));have hlo:∀ n,cN st' lo n=cN st lo n:=λn=>l8 λy hy t ht=>hop' t (List.mem_append_left _ (ba (by simp[Op.operands,hy]) t ht))
  have hhi:∀ n,cN st' hi n=cN st hi n:=λn=>l8 λy hy t ht=>hop' t (List.mem_append_left _ (ba (by simp[Op.operands,hy]) t ht))
  have e:one st' x=one st x:=dg hx.1;have hr:∀ q∈aw [one st x],st' q=st q:=λq hq=>hx.2 q (ik hq)
  have hmx:∀ m,mx=some m->cN st' (some m) 0=cN st (some m) 0:=λm hm=>l8 λy hy t ht=>hop' t (List.mem_append_left _ (ba (by simp[Op.operands,hm,Option.some.inj hy]) t ht))
  simp only[act,hop,e,hlo,hhi,b6 hr,hE];cases hd:o.dst with
  |none=>cases mx <;> rfl
  |some d =>
   cases mx with
   |none=>simp only[hput _ _ _ _ hd]
   |some m =>
    simp only[hmx m rfl];split
    ·rename_i r j v _ hl _;rw[hl]at hr;rw[b6 hr,gq (st:=st) (st':=st') (λz hz=>by simp at hz;subst hz;exact hr _ (by simp[aw]))];simp only[hput _ _ _ _ hd]
    ·rfl
 |fieldAddr t x f =>
  have hop':=hop0 (by simp[hop]) (by simp[hop]);simp only[hop,cd]at hop';have hx:=c6 hop' (x:=x) (ba (by simp[Op.operands]));have e:one st' x=one st x:=dg hx.1;have hr:∀ q∈aw [one st x],st' q=st q:=λq hq=>hx.2 q (ik hq)
  simp only[act,hop,e,hw];split
  ·split
   ·split
    ·rfl
    ·rfl
    ·rename_i r j v i sz off hl;rw[hl]at hr;rw[hr r (by simp[aw])]
    ·rename_i p ks ep a y o' hl;rw[hl,tr]at hr;rw[iE hr]
    ·rfl
   ·rfl
  ·rfl
 |field t x f =>
  have hop':=hop0 (by simp[hop]) (by simp[hop]);simp only[hop,cd]at hop';have e1:ar st' x=ar st x:=dw λt ht=>hop' t (ba (by simp[Op.operands]) t ht)
  simp only[act,hop,e1,hw]
 |indexAddr t x i =>
  simp only[hop,eh]at hh;have hsl:∀ y∈(Op.indexAddr t x i).operands,∀ t,y=.tmp t->bB (st' t)=bB (st t):=λy hy t ht=>hh t (List.mem_append_left _ (ba hy t ht))
  have e:one st' x=one st x:=xB (hsl x (by simp[Op.operands]));have e2:one st' i=one st i:=xB (hsl i (by simp[Op.operands]));have hr:∀ q∈aw [one st x],bB (st' q)=bB (st q):=λq hq=>by
   obtain⟨t',ht',hq⟩:=qa (ik hq);have hts:=ba (xs:=(Op.indexAddr t x i).operands) (x:=x) (by simp[Op.operands]) t' ht';rcases hq with rfl|hq
   ·exact hh q (List.mem_append_left _ hts)
   ·exact hh q (List.mem_append_right _ (List.mem_flatMap.2 ⟨t',hts,hq⟩))
  simp only[act,hop,e,e2,hw];split
  ·split
   ·rfl
   ·split
    ·rename_i r j v hl;rw[hl]at hr;have hq:=hr r (by simp[aw]);have hv:(st' r).ver=(st r).ver:=by simp only[bB,Prod.mk.injEq]at hq;exact hq.1
     simp only[aD,hv];cases Nat.beq (st r).ver v with
     |false=>rfl
     |true =>
      simp only[cond_true];rcases rU (vT hq j) with e3|⟨p,p',h1,h2,E1,E2,e',e'',xs,xs',e3,e4,e5,e6⟩
      ·rw[e3]
      ·rw[e3,e4];simp only[mi,e5,yx,e6]
    ·rfl
    ·rename_i p ks ep loc E' e' xs hl;rw[hl,gp]at hr;rw[xg hr]
    ·rfl
   ·rfl
  ·rfl
 |index t x i =>
  have hop':=hop0 (by simp[hop]) (by simp[hop]);simp only[hop,cd]at hop';have hx:=c6 hop' (x:=x) (ba (by simp[Op.operands]));have e1:one st' x=one st x:=dg hx.1;have e2:one st' i=one st i:=dg (c6 hop' (x:=i) (ba (by simp[Op.operands]))).1;have e3:ar st' x=ar st x:=dw hx.1;simp only[act,hop,e1,e2,e3,hw,λe n=>lZ (e:=e) n _ hx.2]
 |extract x i =>
  have hop':=hop0 (by simp[hop]) (by simp[hop]);simp only[hop,cd]at hop';have e1:ar st' x=ar st x:=dw λt ht=>hop' t (ba (by simp[Op.operands]) t ht)
  simp only[act,hop,e1,hw]
 |makeFunc fn first caps =>
  have hop':=hop0 (by simp[hop]) (by simp[hop]);simp only[hop,cd]at hop';cases fn with
  |func f =>
   have:qI st' caps.toList=qI st caps.toList:=tu (st:=st) (st':=st') caps.toList (some []) (λx hx t ht=>hop' t (ba (by simp[Op.operands];exact .inr (by simpa using hx)) t ht));simp only[act,hop,hw,this]
  |_=>simp only[act,hop]
 |call c =>
  have hop':=hop0 (by simp[hop]) (by simp[hop]);simp only[hop,cd]at hop';simp only[act,hop];split
  ·rfl
  ·rename_i d hd;obtain⟨hdd,hdB⟩:=rV hd h;cases hc:c.callee with
   |value f =>
    simp only[hc]at hop';have hT:=hop' TMP (List.mem_cons_self ..);have hE:=hop' EPO (List.mem_cons_of_mem _ (List.mem_cons_self ..));have hop':=λq hq=>hop' q (List.mem_cons_of_mem _ (List.mem_cons_of_mem _ hq))
    have hmf:f∈(Op.call c).operands:=by simp[Op.operands,Call.operands,hc]
    have hma:∀ x∈c.args.toList,x∈(Op.call c).operands:=λx hx=>by
     simp only[Op.operands,Call.operands,hc,Array.mem_append];exact .inr (by simpa using hx)
    have hts:∀ x∈(Op.call c).operands,∀ t,x=.tmp t->st' t=st t:=λx hx t ht=>hop' t (by
     unfold jz;exact List.mem_append_left _ (List.mem_append_left _ (List.mem_append_left _ (ba hx t ht))))
    have e1:one st' f=one st f:=dg (hts f hmf);have e2:c.args.toList.map (ar st')=c.args.toList.map (ar st):=List.map_congr_left λx hx=>dw (hts x (hma x hx))
    have hdeep:∀ x∈c.args.toList.map (ar st),d7 st st' x.2:=by
     intro x hx;obtain⟨y,hy,rfl⟩:=List.mem_map.1 hx;exact oQ hop' (ba (hma y hy))
    simp only[e1,e2];split
    ·rename_i g caps hl;refine rY hT hE ?_ hdd hdB;intro x hx;rcases List.mem_append.1 hx with hx|hx
     ·exact hdeep x hx
     ·obtain⟨b,hb,rfl⟩:=List.mem_map.1 hx;have hf:=oQ hop' (ba hmf);rw[pz hl (by simp)]at hf;exact nG hf _ (List.mem_map.2 ⟨b,hb,rfl⟩)
    ·rename_i g caps hl;refine rY hT hE ?_ hdd hdB;intro x hx;rcases List.mem_append.1 hx with hx|hx
     ·exact hdeep x hx
     ·obtain⟨cp,hcp,rfl⟩:=List.mem_map.1 hx;exact mb _ (List.mem_map.2 ⟨cp,hcp,rfl⟩)
    ·rename_i As B φ hl;rw[qe As _ (λx hx q hq=>(hdeep x hx).d1 q (eR hq))];simp only[hw]
    ·rfl
   |builtin b =>
    simp only[hc]at hop';have hT:=hop' TMP (List.mem_cons_self ..);have hop':=λq hq=>hop' q (List.mem_cons_of_mem _ hq)
    have hma:∀ x∈c.args.toList,x∈(Op.call c).operands:=λx hx=>by
     simp only[Op.operands,Call.operands,hc,Array.mem_append];exact .inr (by simpa using hx)
    have hx:∀ x∈c.args.toList,one st' x=one st x/\∀ q∈aw [one st x],st' q=st q:=λx hx=>by
     have:=c6 hop' (ba (hma x hx));exact⟨dg this.1,λq hq=>this.2 q (ik hq)⟩
    cases b with
    |len =>
     dsimp only;split
     ·rename_i x hxx;have h1:=hx x (by rw[hxx];simp);simp only[h1.1,b6 h1.2,hw]
     ·rfl
    |append =>
     dsimp only;split
     ·rename_i x y t u hxx _;have h1:=hx x (by rw[hxx];simp);have h2:=hx y (by rw[hxx];simp);split
      ·rw[h1.1,h2.1,uB hT h1.2 h2.2 hdd]
      ·rfl
     ·rfl
    |min =>
     dsimp only;split
     ·rename_i x y hxx;rw[(hx x (by rw[hxx];simp)).1,(hx y (by rw[hxx];simp)).1];simp only[hw]
     ·rfl
    |max =>
     dsimp only;split
     ·rename_i x y hxx;rw[(hx x (by rw[hxx];simp)).1,(hx y (by rw[hxx];simp)).1];simp only[hw]
     ·rfl
    |_=>rfl
   |invoke x n=>rfl
 |_=>simp only[act,hop]
end
end Go.Proofs.YtmcbmojdeikcdaaGreatEv
namespace Go.Proofs.YtmcbmojdeikcdaaGreatEv
open Go Go.RowKit
section
variable {P:Program} {V:Env} {Γ:List Ctr} {T:TypeId->TI} {st st':St} {o:Oper} {R:Type} {all:Array Oper}
def lg (Γ:List Ctr)(T:TypeId->TI)(all:Array Oper)(o:Oper)(st:St)(U:Upd):Prop :=
 match o.guard with
 |none=>act Γ T o st some=some U
 |some (j,want)=>∃ t,(all[j]?).bind (·.dst)=some t /\
  ((∃ b,(st t).sh=.one/\(st t).ls=[.bool b]/\((b=want/\act Γ T o st some=some U)\/(b≠want/\U=dZ st o)))\/((st t).sh=.und/\U=dZ st o))
def iF (Γ:List Ctr)(T:TypeId->TI)(all:Array Oper)(o:Oper)(st:St)(U:Upd)(t:cr):Prop :=
 ((∀ q∈U.map (·.1),q∈t.wr\/q∈t.cw)/\(∀ q∈t.wr,q∈U.map (·.1))/\∀ q,q∈U.map (·.1)->q∉t.wr->bB (ac U st q)=bB (st q))/\match o.guard with
 |none=>act Γ T o st some=some U/\(∀ q∈eE st o,q∈t.rd)/\∀ q∈eh st o.op,q∈t.hd
 |some (j,want)=>∃ s,(all[j]?).bind (·.dst)=some s/\s∈t.rd /\
  ((∃ b,(st s).sh=.one/\(st s).ls=[.bool b]/\((b=want/\act Γ T o st some=some U/\(∀ q∈eE st o,q∈t.rd)/\∀ q∈eh st o.op,q∈t.hd)\/(b≠want/\U=dZ st o/\∀ d,o.dst=some d->d∈t.wr))) \/
   ((st s).sh=.und/\U=dZ st o/\∀ d,o.dst=some d->d∈t.wr))
theorem rZ {α:Type}:∀ {l:List α} {j:Nat} {x:α},l[j]?=some x->l.set j x=l
 |[],_,_,h=>by simp at h
 |y::l,0,x,h=>by simp at h;subst h;rfl
 |y::l,j+1,x,h=>by rw[List.set_cons_succ,rZ (by simpa using h)]
theorem yy {U:Upd}(h:act Γ T o st some=some U):∀ q∈dz st o,bB (ac U st q)=bB (st q):=by
 intro q hq;unfold dz at hq;split at hq
 ·rename_i t x y hop;split at hq
  ·rename_i r j ver i sz off hx;simp only[List.mem_singleton]at hq;subst hq;simp only[act,wrU,hop]at h;split at h
   ·cases h
   ·cases hb:Nat.beq (ar st y).2.length (T t).cells&&decide ((ar st y).1=be (T t).agg)&&!decide ((T t).cells=0) with
    |false=>simp[hb]at h
    |true =>
     simp only[hb,cond_true,hx]at h;split at h
     ·rename_i p hh E e xs hd;cases hc:Nat.beq sz e.cells&&decide (off+(ar st y).2.length<=e.cells)&&qu q with
      |false=>simp[hc]at h
      |true =>
       simp only[hc,cond_true]at h;obtain⟨_,hl⟩:=ey hd (by simp);have key:∀ (p':Bool) (hh':Option (Nat×Nat)) (v:e.den) (X:Upd),bB (ac ((q,⟨(st q).ver,(st q).sh,aQ (st q).ls j (.own p' hh' E e (xs.set i v))⟩)::X) st q)=bB (st q):=by
        intro p' hh' v X;rw[aN,bg];simp only[bB,aQ];rw[List.map_set,rZ];rw[List.getElem?_map,hl];simp[iv]
       unfold fH at h;obtain⟨old,_,h⟩:=Option.bind_eq_some_iff.1 h;split at h
       ·rename_i t _;cases hd2:t.rest.isEmpty&&aX t.kill&&db t.frz t.kill&&!((t.kill++t.frz).any λk=>Nat.beq k.1 q) with
        |false=>rw[hd2]at h;cases h
        |true =>
         simp only[hd2,cond_true]at h;cases hh with
         |none =>
          simp only[Option.some.injEq]at h;rw[<- h];exact key _ _ _ _
         |some hp =>
          obtain⟨hi,ho⟩:=hp;simp only at h;cases h1:Nat.ble off ho&&Nat.blt ho (off+(ar st y).2.length) with
          |false =>
           rw[h1]at h;simp only[cond_false,Option.some.injEq]at h;rw[<- h];exact key _ _ _ _
          |true =>
           rw[h1]at h;simp only[cond_true]at h;cases h2:Nat.beq i hi <;> rw[h2]at h <;> simp only[cond_true,cond_false,Option.some.injEq]at h <;> rw[<- h] <;> exact key _ _ _ _
       ·cases h
     ·cases h
  ·simp at hq
 ·simp at hq
theorem nI {t:Nat}{b:Bool}(h1:(st t).sh=.one)(h2:(st t).ls=[.bool b]):lit st t b=st:=by
 funext q;unfold lit;rcases am t q ⟨(st t).ver,.one,[.bool b]⟩ st with ⟨rfl,e⟩|⟨_,e⟩
 ·rw[e,<- h1,<- h2]
 ·exact e
theorem uE {U:Upd}(h:act Γ T o st some=some U):(∀ q∈U.map (·.1),q∈(U.map (·.1)).filter (λq=>!((dz st o).any (Nat.beq q)))\/q∈dz st o)/\(∀ q∈(U.map (·.1)).filter (λq=>!((dz st o).any (Nat.beq q))),q∈U.map (·.1)) /\
  ∀ q,q∈U.map (·.1)->q∉(U.map (·.1)).filter (λq=>!((dz st o).any (Nat.beq q)))->bB (ac U st q)=bB (st q):=by
 have hany:∀ q,(dz st o).any (Nat.beq q)=true->q∈dz st o:=λq hq=>by
  obtain⟨x,hx,he⟩:=List.any_eq_true.1 hq;rw[Nat.eq_of_beq_eq_true he];exact hx
 refine⟨λq hq=>?_,λq hq=>(List.mem_filter.1 hq).1,λq hq hn=>?_⟩
 ·cases hc:(dz st o).any (Nat.beq q) with
  |true=>exact .inr (hany q hc)
  |false=>exact .inl (List.mem_filter.2 ⟨hq,by rw[hc];rfl⟩)
 ·refine yy h q (hany q ?_);cases hc:(dz st o).any (Nat.beq q) with
  |true=>rfl
  |false=>exact absurd (List.mem_filter.2 ⟨hq,by rw[hc];rfl⟩) hn
theorem yz {κ:St->cr->Option R}{r:R}(h:opK Γ T all o st κ=some r):∃ U t,iF Γ T all o st U t/\κ (ac U st) t=some r:=by
 have hgo:∀ (more:List Nat),act Γ T o st (λU=>κ (ac U st) ⟨more++eE st o,eh st o.op,(U.map (·.1)).filter (λq=>!((dz st o).any (Nat.beq q))),dz st o⟩)=some r ->
   ∃ U,act Γ T o st some=some U/\κ (ac U st) ⟨more++eE st o,eh st o.op,(U.map (·.1)).filter (λq=>!((dz st o).any (Nat.beq q))),dz st o⟩=some r:=by
  intro more h;rw[rR]at h;obtain⟨U,h1,h2⟩:=Option.bind_eq_some_iff.1 h;exact⟨U,h1,h2⟩
 have hskip:((∀ q∈(dZ st o).map (·.1),q∈o.dst.toList\/q∈([]:List Nat))/\(∀ q∈o.dst.toList,q∈(dZ st o).map (·.1))/\∀ q,q∈(dZ st o).map (·.1)->q∉o.dst.toList->bB (ac (dZ st o) st q)=bB (st q)):=by
  unfold dZ;cases o.dst with
  |none=>simp
  |some d=>simp
 unfold opK at h;unfold iF;cases hg:o.guard with
 |none =>
  simp only[hg]at h;obtain⟨U,h1,h2⟩:=hgo [] h;exact⟨U,_,⟨uE h1,h1,λq hq=>by simpa using hq,λq hq=>hq⟩,h2⟩
 |some jw =>
  obtain⟨j,want⟩:=jw;simp only[hg]at h;split at h
  ·rename_i t ht;have hdst:∀ d,o.dst=some d->d∈o.dst.toList:=λd hd=>by simp[hd]
   split at h
   ·rename_i b hsh hls;have hl:∀ b',b'=b->lit st t b'=st:=λb' e=>nI hsh (by rw[hls,e])
    cases b with
    |true =>
     simp only[cond_true,hl true rfl]at h;cases want with
     |true =>
      simp only[cond_true]at h;obtain⟨U,h1,h2⟩:=hgo [t] h;exact⟨U,_,⟨uE h1,t,ht,by simp,.inl ⟨true,hsh,hls,.inl ⟨rfl,h1,λq hq=>List.mem_append_right _ hq,λq hq=>hq⟩⟩⟩,h2⟩
     |false =>
      simp only[cond_false]at h;exact⟨dZ st o,_,⟨hskip,t,ht,by simp,.inl ⟨true,hsh,hls,.inr ⟨by simp,rfl,hdst⟩⟩⟩,h⟩
    |false =>
     simp only[cond_false,hl false rfl]at h;cases want with
     |true =>
      simp only[cond_true]at h;exact⟨dZ st o,_,⟨hskip,t,ht,by simp,.inl ⟨false,hsh,hls,.inr ⟨by simp,rfl,hdst⟩⟩⟩,h⟩
     |false =>
      simp only[cond_false]at h;obtain⟨U,h1,h2⟩:=hgo [t] h;exact⟨U,_,⟨uE h1,t,ht,by simp,.inl ⟨false,hsh,hls,.inl ⟨rfl,h1,λq hq=>List.mem_append_right _ hq,λq hq=>hq⟩⟩⟩,h2⟩
   ·rename_i hsh;exact⟨dZ st o,_,⟨hskip,t,ht,by simp,.inr ⟨hsh,rfl,hdst⟩⟩,h⟩
   ·cases h
  ·cases h
theorem tv {U:Upd}(e:U=dZ st o)(hd:∀ d,o.dst=some d->st' d=st d):U=dZ st' o:=by
 rw[e];unfold dZ;cases hdd:o.dst with
 |none=>rfl
 |some d=>simp only[hd d hdd]
theorem iF.frame {U:Upd}{t:cr}(h:iF Γ T all o st U t)(hs:∀ q,q∈t.rd\/q∈t.wr->st' q=st q)(hh:∀ q∈t.hd,bB (st' q)=bB (st q)):lg Γ T all o st' U:=by
 obtain⟨_,h⟩:=h;have hact:act Γ T o st some=some U->(∀ q∈eE st o,q∈t.rd)->(∀ q∈eh st o.op,q∈t.hd)->act Γ T o st' some=some U:=by
  intro h1 h2 h3;rw[zq (λq hq=>hs q (.inl (h2 q hq))) (λq hq=>hh q (h3 q hq))];exact h1
 unfold lg;cases hg:o.guard with
 |none =>
  rw[hg]at h;exact hact h.1 h.2.1 h.2.2
 |some jw =>
  obtain⟨j,want⟩:=jw;rw[hg]at h;obtain⟨s,h1,h2,h3⟩:=h;have hss:=hs s (.inl h2);refine⟨s,h1,?_⟩;rw[hss];rcases h3 with ⟨b,h4,h5,h6⟩|⟨h4,h5,h6⟩
  ·refine .inl ⟨b,h4,h5,?_⟩;rcases h6 with ⟨h7,h8,h9,h10⟩|⟨h7,h8,h9⟩
   ·exact .inl ⟨h7,hact h8 h9 h10⟩
   ·exact .inr ⟨h7,tv h8 (λd hd=>hs d (.inr (h9 d hd)))⟩
  ·exact .inr ⟨h4,tv h5 (λd hd=>hs d (.inr (h6 d hd)))⟩
theorem uF (hV:ax V)(hT:TOk P T)(hΓ:∀ c∈Γ,ag P c){ops:Array Oper}{i:Nat}(hi:ops[i]?=some o)(hok:bF V o)(hguard:∀ j want,o.guard=some (j,want)->∀ s,(ops[j]?).bind (·.dst)=some s->s<V.nt)
  {U:Upd} (h:lg Γ T ops o st U) {a:Act} {w:World} (hr:Rel P V st a w) {K:Act->World->Prop} {Q:Exit->Act->World->Prop} (hK:∀ a' w',Rel P V (ac U st) a' w'->K a' w'):wpOp P ops Q i K a w:=by
 obtain⟨W,hr⟩:=hr;unfold wpOp;simp only[hi];have hgo:act Γ T o st some=some U->o.wp P a w K Q:=by
  intro h1;obtain⟨U',h2,h3⟩:=zp hV hT hΓ hok h1;cases h2;exact h3 W a w hr K Q hK
 have hskip:U=dZ st o->K (a.put o.dst undef) w:=by
  intro e;refine hK _ _ ?_;subst e;unfold dZ;cases hd:o.dst with
  |none=>exact⟨W,hr⟩
  |some d=>exact hr.putLs hV d (hok d hd).1 (hok d hd).2 _ .und [] undef [] (Nat.lt_succ_self _) ⟨rfl,rfl⟩ trivial
 unfold lg at h;cases hg:o.guard with
 |none =>
  rw[hg]at h;have hw:Region.wanted o (yielded ops a.tmps)=true:=by simp[Region.wanted,hg]
  rw[if_pos hw];exact .inl (hgo h)
 |some jw =>
  obtain⟨j,want⟩:=jw;rw[hg]at h;obtain⟨s,h1,h2⟩:=h;have hsn:=hguard j want hg s h1;have hsB:s<GH:=Nat.lt_of_lt_of_le hsn hV.nt;have hslot:=hr.slots s hsB;have hsz:s<a.tmps.size:=by rw[hr.nt];exact hsn
  have hget:a.tmps[s]?=some (a.tmps.getD s undef):=by
   rw[Array.getD_eq_getD_getElem?,Array.getElem?_eq_getElem hsz];rfl
  rcases h2 with ⟨b,h3,h4,h5⟩|⟨h3,h5⟩
  ·have hlen:=hr.len s;rw[h4]at hlen;rw[h3]at hslot;have hslot:W.cs s=[a.tmps.getD s undef]:=hslot;have hv:=hr.leaf s 0 (.bool b) (a.tmps.getD s undef) (by rw[h4];rfl) (by rw[hslot];rfl);have hv:a.tmps.getD s undef=.bool b:=hv;have hy:yielded ops a.tmps j=some b:=by simp[yielded,h1,hget,hv]
   rcases h5 with ⟨rfl,h6⟩|⟨h6,h7⟩
   ·have hw:Region.wanted o (yielded ops a.tmps)=true:=by simp[Region.wanted,hg,hy]
    rw[if_pos hw];exact .inl (hgo h6)
   ·have hw:Region.wanted o (yielded ops a.tmps)=false:=by
     simp only[Region.wanted,hg,hy];cases b <;> cases want <;> simp at h6 <;> rfl
    rw[hw];exact hskip h7
  ·rw[h3]at hslot;obtain⟨hv,_⟩:=hslot;have hy:yielded ops a.tmps j=none:=by
    unfold yielded;rw[h1,Option.bind_some,hget,hv];rfl
   have hw:Region.wanted o (yielded ops a.tmps)=false:=by simp[Region.wanted,hg,hy]
   rw[hw];exact hskip h5
def Run (Γ:List Ctr)(T:TypeId->TI)(all:Array Oper):St->List Oper->List Upd->List cr->St->Prop
 |st,[],[],[],st'=>st'=st
 |st,o::os,U::us,t::ts,st'=>iF Γ T all o st U t/\Run Γ T all (ac U st) os us ts st'
 |_,_,_,_,_=>False
theorem nJ:∀ (os:List Oper) (st:St) (ts:List cr) (κ:St->List cr->Option R) (r:R),oU Γ T all os st ts κ=some r ->
  ∃ us ts' st',Run Γ T all st os us ts' st'/\κ st' (ts++ts')=some r
 |[],st,ts,κ,r,h=>⟨[],[],st,rfl,by simpa[oU]using h⟩
 |o::os,st,ts,κ,r,h=>by
  simp only[oU]at h;obtain⟨U,t,h1,h2⟩:=yz h;obtain⟨us,ts',st',h3,h4⟩:=nJ os (ac U st) (ts++[t]) κ r h2;exact⟨U::us,t::ts',st',⟨h1,h3⟩,by rw[List.append_assoc]at h4;exact h4⟩
theorem iF.res {U:Upd}{t:cr}(h:iF Γ T all o st U t):lg Γ T all o st U:=h.frame (λ_ _=>rfl) (λ_ _=>rfl)
theorem tw (hV:ax V)(hT:TOk P T)(hΓ:∀ c∈Γ,ag P c){ops:Array Oper}(hok:∀ (i:Nat) (o:Oper),ops[i]?=some o->bF V o)
  (hguard:∀ (i:Nat) (o:Oper),ops[i]?=some o->∀ j want,o.guard=some (j,want)->∀ s,(ops[j]?).bind (·.dst)=some s->s<V.nt) {Q:Exit->Act->World->Prop} :
  ∀ (os:List Oper) (k:Nat) (st:St) (us:List Upd) (ts:List cr) (st':St),ops.toList.drop k=os->Run Γ T ops st os us ts st'->(∀ a w,Rel P V st' a w->Q .normal a w) ->
   ∀ a w,Rel P V st a w->wpOps P ops Q (List.range' k os.length) a w
 |[],k,st,[],[],st',_,h,hQ,a,w,hr=>by
  have h:st'=st:=h;subst h;exact hQ a w hr
 |o::os,k,st,U::us,t::ts,st',hk,h,hQ,a,w,hr=>by
  obtain⟨h1,h2⟩:=h;have hi:ops[k]?=some o:=by
   have:(ops.toList.drop k)[0]?=some o:=by rw[hk];rfl
   rw[List.getElem?_drop]at this;simpa using this
  rw[List.length_cons,List.range'_succ,wpOps_cons];refine uF hV hT hΓ hi (hok k o hi) (hguard k o hi) h1.res hr (λa' w' hr'=>?_);exact tw hV hT hΓ hok hguard os (k+1) (ac U st) us ts st' (by rw[<- List.drop_drop,hk];rfl) h2 hQ a' w' hr'
end
end Go.Proofs.YtmcbmojdeikcdaaGreatEv
namespace Go.Proofs.YtmcbmojdeikcdaaGreatEv
open Go Go.RowKit
section
variable {P:Program} {V:Env} {Γ:List Ctr} {T:TypeId->TI} {st st':St} {o:Oper} {R:Type} {all:Array Oper}
def cM (D:Nat->Bool):List Upd->St->St
 |[],st=>st
 |U::us,st=>cM (λj=>D (j+1)) us (bif D 0 then ac U st else st)
theorem il {q:Nat}:∀ {U:Upd} (s s':St),q∈U.map (·.1)->ac U s q=ac U s' q
 |[],_,_,h=>by simp at h
 |(r,c)::U,s,s',h=>by
  simp only[ac];cases hb:Nat.beq q r with
  |true=>rfl
  |false =>
   simp only[cond_false];refine il s s' ?_;simp only[List.map_cons,List.mem_cons]at h;rcases h with rfl|h
   ·simp at hb
   ·exact h
theorem dX {q:Nat}:∀ {U:Upd} (s:St),q∉U.map (·.1)->ac U s q=s q
 |[],_,_=>rfl
 |(r,c)::U,s,h=>by
  simp only[List.map_cons,List.mem_cons,not_or]at h;have hb:Nat.beq q r=false:=by
   cases hb:Nat.beq q r with
   |false=>rfl
   |true=>exact absurd (Nat.eq_of_beq_eq_true hb) h.1
  simp only[ac,hb,cond_false];exact dX s h.2
theorem vU {U U':Upd}(h:∀ q,q∈U.map (·.1)->q∉U'.map (·.1))(s:St):ac U' (ac U s)=ac U (ac U' s):=by
 funext q;by_cases h1:q∈U.map (·.1)
 ·rw[dX _ (h q h1)];exact il _ _ h1
 ·rw[dX (U:=U) _ h1];by_cases h2:q∈U'.map (·.1)
  ·exact il _ _ h2
  ·rw[dX _ h2,dX _ h2,dX _ h1]
theorem lh:∀ {us:List Upd} {D D':Nat->Bool} {s:St},(∀ j,j<us.length->D j=D' j)->cM D us s=cM D' us s
 |[],_,_,_,_=>rfl
 |U::us,D,D',s,h=>by
  simp only[cM];rw[h 0 (by simp)];exact lh (λj hj=>h (j+1) (by simpa using hj))
theorem md:∀ {us:List Upd} {D:Nat->Bool} {s:St},(∀ j,D j=false)->cM D us s=s
 |[],_,_,_=>rfl
 |U::us,D,s,h=>by
  simp only[cM,h 0,cond_false];exact md (λj=>h (j+1))
theorem li {q:Nat}:∀ {us:List Upd} {D D':Nat->Bool} {s s':St},s q=s' q->(∀ (j:Nat) (U:Upd),us[j]?=some U->q∈U.map (·.1)->D j=D' j)->cM D us s q=cM D' us s' q
 |[],_,_,_,_,h,_=>h
 |U::us,D,D',s,s',h,H=>by
  simp only[cM];refine li ?_ (λj U' h1 h2=>H (j+1) U' (by simpa using h1) h2);by_cases hq:q∈U.map (·.1)
  ·rw[H 0 U rfl hq];cases D' 0 with
   |true=>exact il _ _ hq
   |false=>exact h
  ·have e1:∀ b:Bool,(bif b then ac U s else s) q=s q:=by intro b;cases b <;> simp[dX _ hq]
   have e2:∀ b:Bool,(bif b then ac U s' else s') q=s' q:=by intro b;cases b <;> simp[dX _ hq]
   rw[e1,e2,h]
theorem mf {U:Upd}:∀ {us:List Upd} {D:Nat->Bool} {s:St},(∀ (j:Nat) (U':Upd),us[j]?=some U'->D j=true->∀ q,q∈U.map (·.1)->q∉U'.map (·.1))->cM D us (ac U s)=ac U (cM D us s)
 |[],_,_,_=>rfl
 |U'::us,D,s,h=>by
  simp only[cM];cases hD:D 0 with
  |true =>
   simp only[cond_true];rw[vU (h 0 U' rfl hD)];exact mf (λj U'' h1 h2=>h (j+1) U'' (by simpa using h1) h2)
  |false =>
   simp only[cond_false];exact mf (λj U'' h1 h2=>h (j+1) U'' (by simpa using h1) h2)
theorem mZ {U:Upd}:∀ {us:List Upd} {i:Nat} {D D':Nat->Bool} {s:St},us[i]?=some U->D i=false->(∀ j,D' j=(D j||Nat.beq j i)) ->
  (∀ (j:Nat) (U':Upd),us[j]?=some U'->i<j->D j=true->∀ q,q∈U.map (·.1)->q∉U'.map (·.1))->cM D' us s=ac U (cM D us s)
 |[],i,_,_,_,h,_,_,_=>by simp at h
 |V::us,0,D,D',s,h,hD,hD',H=>by
  simp at h;subst h;simp only[cM];have h0:D' 0=true:=by rw[hD' 0];simp
  rw[h0,hD];simp only[cond_true,cond_false];have e:cM (λj=>D' (j+1)) us (ac V s)=cM (λj=>D (j+1)) us (ac V s):=lh (λj _=>by rw[hD' (j+1)];simp[Nat.beq]);rw[e];exact mf (λj U' h1 h2=>H (j+1) U' (by simpa using h1) (by omega) h2)
 |V::us,i+1,D,D',s,h,hD,hD',H=>by
  simp only[cM];have h0:D' 0=D 0:=by rw[hD' 0];simp[Nat.beq]
  rw[h0];exact mZ (i:=i) (by simpa using h) hD (λj=>by rw[hD' (j+1)];simp[Nat.beq]) (λj U' h1 h2 h3=>H (j+1) U' (by simpa using h1) (by omega) h3)
theorem pA:∀ {os:List Oper} {us:List Upd} {ts:List cr} {s s':St},Run Γ T all s os us ts s'->∀ (i:Nat) (o:Oper),os[i]?=some o ->
  ∃ U t,us[i]?=some U/\ts[i]?=some t/\iF Γ T all o (cM (λj=>decide (j<i)) us s) U t
 |[],_,_,_,_,_,i,o,h=>by simp at h
 |o'::os,[],_,_,_,h,_,_,_=>h.elim
 |o'::os,_::_,[],_,_,h,_,_,_=>h.elim
 |o'::os,U::us,t::ts,s,s',h,0,o,hi=>by
  simp at hi;subst hi;exact⟨U,t,rfl,rfl,by rw[md (λj=>by simp)];exact h.1⟩
 |o'::os,U::us,t::ts,s,s',h,i+1,o,hi=>by
  obtain⟨U',t',h1,h2,h3⟩:=pA h.2 i o (by simpa using hi);refine⟨U',t',by simpa using h1,by simpa using h2,?_⟩;simp only[cM];have e:(λj=>decide (j+1<i+1))=λj=>decide (j<i):=by funext j;simp
  rw[e];simpa using h3
theorem tx:∀ {os:List Oper} {us:List Upd} {ts:List cr} {s s':St},Run Γ T all s os us ts s'->us.length=os.length/\ts.length=os.length/\s'=cM (λ_=>true) us s
 |[],[],[],_,_,h=>⟨rfl,rfl,h⟩
 |[],_::_,_,_,_,h=>h.elim
 |[],[],_::_,_,_,h=>h.elim
 |_::_,[],_,_,_,h=>h.elim
 |_::_,_::_,[],_,_,h=>h.elim
 |o::os,U::us,t::ts,s,s',h=>by
  obtain⟨h1,h2,h3⟩:=tx h.2;exact⟨by simp[h1],by simp[h2],by simpa[cM]using h3⟩
theorem pB {q:Nat}:∀ {os:List Oper} {us:List Upd} {ts:List cr} {sT s':St} {D:Nat->Bool} {F:Nat->Bool} {s sF:St} {B:Prop},Run Γ T all sT os us ts s'->(∀ (j:Nat) (t:cr),ts[j]?=some t->F j=decide (q∈t.wr)) ->
  bB (s q)=bB (sF q)->(B->bB (sF q)=bB (sT q)) ->
  (∀ (j:Nat) (t:cr) (U:Upd),ts[j]?=some t->us[j]?=some U->D j=true->q∉t.wr->q∈U.map (·.1)->B/\∀ (k:Nat) (t':cr),k<j->ts[k]?=some t'->q∈t'.wr->D k=true) ->
  bB (cM D us s q)=bB (cM (λj=>D j&&F j) us sF q)
 |[],[],[],_,_,_,_,_,_,_,_,_,h1,_,_=>h1
 |[],_::_,_,_,_,_,_,_,_,_,h,_,_,_,_=>h.elim
 |[],[],_::_,_,_,_,_,_,_,_,h,_,_,_,_=>h.elim
 |_::_,[],_,_,_,_,_,_,_,_,h,_,_,_,_=>h.elim
 |_::_,_::_,[],_,_,_,_,_,_,_,h,_,_,_,_=>h.elim
 |o::os,U::us,t::ts,sT,s',D,F,s,sF,B,h,hF,h1,h2,hcl=>by
  obtain⟨⟨⟨k1,k2,k3⟩,_⟩,hrun⟩:=h;have hF0:=hF 0 t rfl;simp only[cM];refine pB (F:=λj=>F (j+1)) (B:=B/\(q∈t.wr->D 0=true)) hrun (λj t' ht=>hF (j+1) t' (by simpa using ht)) ?_ ?_ ?_
  ·by_cases hq:q∈U.map (·.1)
   ·by_cases hw:q∈t.wr
    ·rw[hF0,decide_eq_true hw,Bool.and_true];cases D 0 with
     |true=>simp only[cond_true];rw[il s sF hq]
     |false=>exact h1
    ·rw[hF0,decide_eq_false hw,Bool.and_false];simp only[cond_false];cases hD:D 0 with
     |true =>
      simp only[cond_true];rw[il s sT hq,k3 q hq hw];exact (h2 (hcl 0 t U rfl rfl hD hw hq).1).symm
     |false=>exact h1
   ·have e:∀ (b:Bool) (x:St),(bif b then ac U x else x) q=x q:=by intro b x;cases b <;> simp[dX _ hq]
    rw[e,e];exact h1
  ·rintro⟨hB,hD⟩;by_cases hq:q∈U.map (·.1)
   ·by_cases hw:q∈t.wr
    ·rw[hF0,decide_eq_true hw,Bool.and_true,hD hw];simp only[cond_true];rw[il sF sT hq]
    ·rw[hF0,decide_eq_false hw,Bool.and_false];simp only[cond_false];rw[k3 q hq hw];exact h2 hB
   ·have e:∀ (b:Bool) (x:St),(bif b then ac U x else x) q=x q:=by intro b x;cases b <;> simp[dX _ hq]
    rw[e,dX _ hq];exact h2 hB
  ·intro j t' U' ht hU hD hw hq;obtain⟨g1,g2⟩:=hcl (j+1) t' U' (by simpa using ht) (by simpa using hU) hD hw hq;exact⟨⟨g1,λhw0=>g2 0 t (by omega) rfl hw0⟩,λk t2 hk ht2 hw2=>g2 (k+1) t2 (by omega) (by simpa using ht2) hw2⟩
theorem qf {f:Nat->Nat}{i:Nat}:∀ (l:List Edge) (s:Nat),(l.foldl (λs e=>bif Region.binds .any e then s ||| 2 ^ e.on ||| f e.on else s) s).testBit i=true ->
  s.testBit i=true\/∃ e∈l,Region.binds .any e=true/\(i=e.on\/(f e.on).testBit i=true)
 |[],s,h=>.inl h
 |e::l,s,h=>by
  simp only[List.foldl_cons]at h;rcases qf l _ h with h|⟨e',h1,h2⟩
  ·cases hb:Region.binds .any e with
   |false=>rw[hb]at h;exact .inl h
   |true =>
    rw[hb]at h;simp only[cond_true,Nat.testBit_or,Bool.or_eq_true]at h;rcases h with (h|h)|h
    ·exact .inl h
    ·refine .inr ⟨e,List.mem_cons_self ..,hb,.inl ?_⟩;rw[Nat.testBit_two_pow]at h;exact (of_decide_eq_true h).symm
    ·exact .inr ⟨e,List.mem_cons_self ..,hb,.inr h⟩
  ·exact .inr ⟨e',List.mem_cons_of_mem _ h1,h2⟩
theorem r8:∀ (os:List Oper) (acc:List Nat),(∀ j,j<acc.length->(iG os acc).getD j 0=acc.getD j 0) /\
  ∀ (k:Nat) (o:Oper),os[k]?=some o->∃ acc':List Nat,acc'.length=acc.length+k/\(∀ j,j<acc'.length->acc'.getD j 0=(iG os acc).getD j 0) /\
   (iG os acc).getD (acc.length+k) 0=o.after.toList.foldl (λs e=>bif Region.binds .any e then s ||| 2 ^ e.on ||| acc'.getD e.on 0 else s) 0
 |[],acc=>⟨λ_ _=>rfl,λk o h=>by simp at h⟩
 |o::os,acc=>by
  obtain⟨h1,h2⟩:=r8 os (acc++[o.after.toList.foldl (λs e=>bif Region.binds .any e then s ||| 2 ^ e.on ||| acc.getD e.on 0 else s) 0]);have hpre:∀ j,j<acc.length->(iG (o::os) acc).getD j 0=acc.getD j 0:=by
   intro j hj;simp only[iG];rw[h1 j (by simp;omega)];simp[List.getD_eq_getElem?_getD,List.getElem?_append_left hj]
  refine⟨hpre,λk o' h=>?_⟩;cases k with
  |zero =>
   simp at h;subst h;refine⟨acc,rfl,λj hj=>(hpre j hj).symm,?_⟩;simp only[iG];rw[Nat.add_zero,h1 acc.length (by simp)];simp[List.getD_eq_getElem?_getD]
  |succ k =>
   obtain⟨acc',h3,h4,h5⟩:=h2 k o' (by simpa using h);refine⟨acc',by simp at h3;omega,λj hj=>h4 j hj,?_⟩;simp only[iG];have e:acc.length+(k+1)=(acc++[o.after.toList.foldl (λs e=>bif Region.binds .any e then s ||| 2 ^ e.on ||| acc.getD e.on 0 else s) 0]).length+k:=by simp;omega
   rw[e];exact h5
theorem iw {ops:Array Oper}{D:Nat->Prop}(hcl:∀ (j:Nat) (o:Oper),ops[j]?=some o->D j->∀ e∈o.after.toList,Region.binds .any e=true->D e.on) :
  ∀ (n j:Nat),j<n->∀ (o:Oper),ops[j]?=some o->(∀ e∈o.after.toList,Region.binds .any e=true->D e.on)->∀ i,((iG ops.toList []).getD j 0).testBit i=true->D i
 |0,_,h,_,_,_,_,_=>by omega
 |n+1,j,hj,o,ho,he,i,hi=>by
  obtain⟨acc',h1,h2,h3⟩:=(r8 ops.toList []).2 j o (by simpa using ho);simp only[List.length_nil,Nat.zero_add]at h1 h3;rw[h3]at hi;rcases qf (f:=λk=>acc'.getD k 0) _ _ hi with h|⟨e,h4,h5,h6⟩
  ·simp at h
  ·rcases h6 with rfl|h6
   ·exact he e h4 h5
   ·have hlt:e.on<acc'.length:=by
     apply Classical.byContradiction;intro hn;have:acc'.getD e.on 0=0:=by
      rw[List.getD_eq_getElem?_getD,List.getElem?_eq_none (by omega)];rfl
     rw[this]at h6;simp at h6
    rw[h2 _ hlt]at h6;have hD:=he e h4 h5;have hlt2:e.on<ops.size:=by
     have:=(Array.getElem?_eq_some_iff.1 ho).1;omega
    exact iw hcl n e.on (by omega) ops[e.on] (Array.getElem?_eq_getElem hlt2) (hcl e.on _ (Array.getElem?_eq_getElem hlt2) hD) i h6
theorem fa {a b:List Nat}(h:kF a b=false){q:Nat}(ha:q∈a):q∉b:=by
 intro hb;unfold kF at h;rw[List.any_eq_false]at h;have:=h q ha;simp only[List.any_eq_true,not_exists,not_and]at this;exact this q hb (by simp)
theorem kd {before:List Nat}{ts:List cr}(h:nP before ts=true){i j:Nat}(hij:i<j){x y:cr}(hx:ts[i]?=some x)(hy:ts[j]?=some y):(before.getD j 0).testBit i=true\/x.apart y=true:=by
 unfold nP at h;rw[List.all_eq_true]at h;have hj:=(List.getElem?_eq_some_iff.1 hy).1;have h1:=h j (by simpa using hj);rw[List.all_eq_true]at h1;have h2:=h1 i (by simpa using hij);simp only[hx,hy,Bool.or_eq_true]at h2;exact h2
theorem oR {p p':Nat->Bool}{i:Nat}(hp:p i=true)(hp':p' i=false)(h:∀ j,j≠i->p' j=p j):∀ (l:List Nat),l.Nodup->i∈l->l.countP p'+1=l.countP p
 |[],_,hi=>by simp at hi
 |x::l,hn,hi=>by
  rw[List.nodup_cons]at hn;by_cases hx:x=i
  ·subst hx;have e:l.countP p'=l.countP p:=by
    apply List.countP_congr;intro y hy;rw[h y (λe=>hn.1 (e ▸ hy))]
   simp[hp,hp',e]
  ·have ih:=oR hp hp' h l hn.2 ((List.mem_cons.1 hi).resolve_left (λe=>hx e.symm));simp only[List.countP_cons,h x hx];omega
theorem zr (hV:ax V)(hT:TOk P T)(hΓ:∀ c∈Γ,ag P c){ops:Array Oper}(hok:∀ (i:Nat) (o:Oper),ops[i]?=some o->bF V o)
  (hguard:∀ (i:Nat) (o:Oper),ops[i]?=some o->∀ j want,o.guard=some (j,want)->∀ s,(ops[j]?).bind (·.dst)=some s->s<V.nt) {Q:Exit->Act->World->Prop}
  {us:List Upd} {ts:List cr} {s0 s1:St} (hrun:Run Γ T ops s0 ops.toList us ts s1) (htext:ml ops=true) (hun:nP (iG ops.toList []) ts=true) (hQ:∀ a w,Rel P V s1 a w->Q .normal a w) :
  ∀ (fuel:Nat) (listed:Array Bool) (a:Act) (w:World),listed.size=ops.size->(List.range ops.size).countP (λi=>!listed.getD i true)=fuel ->
   (∀ (j:Nat) (o:Oper),ops[j]?=some o->listed.getD j false=true->∀ e∈o.after.toList,Region.binds .any e=true->listed.getD e.on false=true) ->
   Rel P V (cM (λj=>listed.getD j false) us s0) a w->wpAny P .any ops Q fuel listed a w:=by
 obtain⟨hul,htl,hend⟩:=tx hrun;have hsz:ops.toList.length=ops.size:=Array.length_toList;have hready:∀ (listed:Array Bool),listed.size=ops.size->Region.ready .any ops listed=[]->∀ i,i<ops.size->listed.getD i false=true:=by
  intro listed hls hr i;induction i using Nat.strongRecOn with
  |ind i ih =>
   intro hi;cases hl:listed.getD i false with
   |true=>rfl
   |false =>
    exfalso;have hl2:listed.getD i true=false:=by
     rw[Array.getD_eq_getD_getElem?,Array.getElem?_eq_getElem (by omega)]at hl ⊢;exact hl
    have ho:ops[i]?=some ops[i]:=Array.getElem?_eq_getElem hi;have hmem:i∈Region.ready .any ops listed:=by
     unfold Region.ready;rw[List.mem_filter];refine⟨by simpa using hi,?_⟩;rw[hl2,ho];simp only[Bool.not_false,Bool.true_and,Option.map_some,Option.getD_some];rw[Array.all_eq_true_iff_forall_mem];intro e he;cases hbd:Region.binds .any e with
     |false=>rfl
     |true =>
      simp only[Bool.not_true,Bool.false_or];have hlt:e.on<i:=by
       unfold ml at htext;rw[List.all_eq_true]at htext;have:=htext i (by simpa using hi);simp only[ho]at this;rw[List.all_eq_true]at this;have:=this e (by simpa using he);simpa[hbd]using this
      exact ih e.on hlt (by omega)
    rw[hr]at hmem;simp at hmem
 have hfin:∀ (listed:Array Bool) (a:Act) (w:World),listed.size=ops.size->Rel P V (cM (λj=>listed.getD j false) us s0) a w->Region.ready .any ops listed=[]->Q .normal a w:=by
  intro listed a w hls hr hrd;refine hQ a w ?_;rw[hend];have:cM (λ_=>true) us s0=cM (λj=>listed.getD j false) us s0:=lh (λj hj=>(hready listed hls hrd j (by omega)).symm);rw[this];exact hr
 intro fuel;induction fuel with
 |zero =>
  intro listed a w hls hcount hcl hr;have hrd:Region.ready .any ops listed=[]:=by
   unfold Region.ready;rw[List.filter_eq_nil_iff];intro i hi hc;rw[List.countP_eq_zero]at hcount;have:=hcount i hi;simp only[Bool.and_eq_true]at hc;exact this hc.1
  exact⟨hrd,hfin listed a w hls hr hrd⟩
 |succ fuel ih =>
  intro listed a w hls hcount hcl hr;refine⟨hfin listed a w hls hr,λi hi=>?_⟩;unfold Region.ready at hi;rw[List.mem_filter]at hi;obtain⟨hin,hi2⟩:=hi;have hin:i<ops.size:=by simpa using hin
  have ho:ops[i]?=some ops[i]:=Array.getElem?_eq_getElem hin;rw[ho]at hi2;simp only[Bool.and_eq_true,Bool.not_eq_true',Option.map_some,Option.getD_some]at hi2;obtain⟨hunl,hedges⟩:=hi2;rw[Array.all_eq_true_iff_forall_mem]at hedges;have hunl2:listed.getD i false=false:=by
   rw[Array.getD_eq_getD_getElem?,Array.getElem?_eq_getElem (by omega)]at hunl ⊢;exact hunl
  have hed:∀ e∈(ops[i]).after.toList,Region.binds .any e=true->listed.getD e.on false=true:=by
   intro e he hb;have:=hedges e (by simpa using he);simpa[hb]using this
  obtain⟨U,t,hU,ht,hdone⟩:=pA hrun i ops[i] (by simp);have hcl':∀ (j:Nat) (o:Oper),ops[j]?=some o->(λk=>listed.getD k false=true) j->∀ e∈o.after.toList,Region.binds .any e=true->(λk=>listed.getD k false=true) e.on:=hcl;obtain⟨hw1,_,_⟩:=hdone.1;have hother:∀ (j:Nat) (U':Upd),us[j]?=some U'->∃ t',ts[j]?=some t'/\(∀ q∈U'.map (·.1),q∈t'.wr\/q∈t'.cw)/\∀ q∈t'.wr,q∈U'.map (·.1):=by
   intro j U' hj;have hjl:j<ops.size:=by
    have:=(List.getElem?_eq_some_iff.1 hj).1;omega
   obtain⟨U2,t2,h1,h2,h3⟩:=pA hrun j ops[j] (by simp[hjl]);rw[hj]at h1;cases h1;exact⟨t2,h2,h3.1.1,h3.1.2.1⟩
  have hap:∀ (j:Nat) (U':Upd),us[j]?=some U'->j≠i->listed.getD j false≠decide (j<i)->∃ t',ts[j]?=some t'/\(∀ q∈U'.map (·.1),q∈t'.wr\/q∈t'.cw)/\(t'.apart t=true\/t.apart t'=true):=by
   intro j U' hj hne hdiff;obtain⟨t',h1,h2,_⟩:=hother j U' hj;refine⟨t',h1,h2,?_⟩;rcases Nat.lt_or_gt_of_ne hne with hlt|hgt
   ·have hl:listed.getD j false=false:=by
     cases hl:listed.getD j false with
     |false=>rfl
     |true=>rw[hl]at hdiff;simp[hlt]at hdiff
    rcases kd hun hlt h1 ht with h3|h3
    ·have:=iw hcl' (i+1) i (Nat.lt_succ_self _) ops[i] ho hed j h3;rw[hl]at this;cases this
    ·exact .inl h3
   ·have hl:listed.getD j false=true:=by
     cases hl:listed.getD j false with
     |true=>rfl
     |false=>rw[hl]at hdiff;simp at hdiff;omega
    have hjl:j<ops.size:=by
     have:=(List.getElem?_eq_some_iff.1 hj).1;omega
    have hoj:ops[j]?=some ops[j]:=Array.getElem?_eq_getElem hjl;rcases kd hun hgt ht h1 with h3|h3
    ·have:=iw hcl' (j+1) j (Nat.lt_succ_self _) ops[j] hoj (hcl j _ hoj hl) i h3;rw[hunl2]at this;cases this
    ·exact .inr h3
  have hdis:∀ (x y:cr),x.apart y=true->(∀ q,q∈x.wr\/q∈x.cw->(q∉y.wr/\q∉y.cw)/\q∉y.rd)/\(∀ q,q∈y.wr\/q∈y.cw->(q∉x.wr/\q∉x.cw)/\q∉x.rd)/\(∀ q∈x.wr,q∉y.hd)/\∀ q∈y.wr,q∉x.hd:=by
   intro x y h;unfold cr.apart at h;simp only[Bool.and_eq_true,Bool.not_eq_true']at h;obtain⟨⟨⟨⟨h1,h2⟩,h3⟩,h4⟩,h5⟩:=h;refine⟨λq hq=>?_,λq hq=>?_,λq hq=>fa h4 hq,λq hq hx=>fa h5 hx hq⟩
   ·have hq:=List.mem_append.2 hq;have:=fa h1 hq;simp only[List.mem_append,not_or]at this;exact⟨this,fa h2 hq⟩
   ·have hq:=List.mem_append.2 hq;have:q∉x.wr++x.cw:=λhx=>fa h1 hx hq
    simp only[List.mem_append,not_or]at this;exact⟨this,λhx=>fa h3 hx hq⟩
  have hnot:∀ (j:Nat) (U':Upd),us[j]?=some U'->j≠i->listed.getD j false≠decide (j<i)->∀ q∈U'.map (·.1),(q∉t.wr/\q∉t.cw)/\q∉t.rd:=by
   intro j U' hj hne hdiff q hq;obtain⟨t',_,h1,h2⟩:=hap j U' hj hne hdiff;rcases h2 with h2|h2
   ·exact (hdis _ _ h2).1 q (h1 q hq)
   ·exact (hdis _ _ h2).2.1 q (h1 q hq)
  have hnoth:∀ (j:Nat) (t':cr),ts[j]?=some t'->j≠i->listed.getD j false≠decide (j<i)->∀ q∈t'.wr,q∉t.hd:=by
   intro j t' hj hne hdiff q hq;have hjl:j<us.length:=by
    have:=(List.getElem?_eq_some_iff.1 hj).1;omega
   obtain⟨t2,h0,_,h2⟩:=hap j us[j] (List.getElem?_eq_getElem hjl) hne hdiff;rw[hj]at h0;cases h0;rcases h2 with h2|h2
   ·exact (hdis _ _ h2).2.2.1 q hq
   ·exact (hdis _ _ h2).2.2.2 q hq
  have hres:lg Γ T ops ops[i] (cM (λj=>listed.getD j false) us s0) U:=by
   refine hdone.frame (λq hq=>?_) (λq hq=>?_)
   ·refine li rfl λj U' hj hqj=>?_
    by_cases hji:j=i
    ·subst hji;rw[hunl2];simp
    ·apply Classical.byContradiction;intro hdiff;have:=hnot j U' hj hji hdiff q hqj;rcases hq with hq|hq
     ·exact this.2 hq
     ·exact this.1.1 hq
   ·have hFF:∀ (j:Nat) (t':cr),ts[j]?=some t'->(λj=>match ts[j]? with|some t'=>decide (q∈t'.wr)|none=>false) j=decide (q∈t'.wr):=λj t' h=>by simp only[h]
    have e1:=pB (q:=q) (D:=λj=>listed.getD j false) (F:=λj=>match ts[j]? with|some t'=>decide (q∈t'.wr)|none=>false) (s:=s0) (sF:=s0) (B:=True) hrun hFF rfl (λ_=>rfl) (λj t' U' hj hU hD hw hqk=>by
     refine⟨trivial,λk t2 hk ht2 hw2=>?_⟩;obtain⟨t3,h3,h4,_⟩:=hother j U' hU;rw[hj]at h3;cases h3;have hcw:=(h4 q hqk).resolve_left hw;have hjl:j<ops.size:=by
      have:=(List.getElem?_eq_some_iff.1 hU).1;omega
     have hoj:ops[j]?=some ops[j]:=Array.getElem?_eq_getElem hjl;rcases kd hun hk ht2 hj with h5|h5
     ·exact iw hcl' (j+1) j (Nat.lt_succ_self _) ops[j] hoj (hcl j _ hoj hD) k h5
     ·exact absurd hcw ((hdis _ _ h5).1 q (.inl hw2)).1.2)
    have e2:=pB (q:=q) (D:=λj=>decide (j<i)) (F:=λj=>match ts[j]? with|some t'=>decide (q∈t'.wr)|none=>false) (s:=s0) (sF:=s0) (B:=True) hrun hFF rfl (λ_=>rfl) (λj t' U' hj hU hD hw hqk=>by
     refine⟨trivial,λk t2 hk ht2 hw2=>?_⟩;have:=of_decide_eq_true hD;exact decide_eq_true (by omega))
    rw[e1,e2];congr 1;refine li rfl λj U' hj hqj=>?_
    obtain⟨t',h1,h2,_⟩:=hother j U' hj;simp only[h1];by_cases hw:q∈t'.wr
    ·rw[decide_eq_true hw,Bool.and_true,Bool.and_true];by_cases hji:j=i
     ·subst hji;rw[hunl2];simp
     ·apply Classical.byContradiction;intro hdiff;exact hnoth j t' h1 hji hdiff q hw hq
    ·rw[decide_eq_false hw,Bool.and_false,Bool.and_false]
  refine uF hV hT hΓ ho (hok i _ ho) (hguard i _ ho) hres hr λa' w' hr'=>?_
  have hset:∀ (b:Bool) (j:Nat),(listed.setIfInBounds i true).getD j b=if j=i then true else listed.getD j b:=by
   intro b j;simp only[Array.getD_eq_getD_getElem?,Array.getElem?_setIfInBounds];by_cases hji:j=i
   ·subst hji;simp[hls,hin]
   ·rw[if_neg (λe=>hji e.symm),if_neg hji]
  refine ih _ a' w' (by simpa using hls) ?_ ?_ ?_
  ·have:=oR (p:=λj=>!listed.getD j true) (p':=λj=>!(listed.setIfInBounds i true).getD j true) (i:=i) (by simp[hunl]) (by simp[hset]) (λj hj=>by simp[hset,hj]) (List.range ops.size) List.nodup_range (by simpa using hin);omega
  ·intro j o' hj hlj e he hb;rw[hset]at hlj ⊢;by_cases hei:e.on=i
   ·rw[if_pos hei]
   ·rw[if_neg hei];by_cases hji:j=i
    ·subst hji;rw[ho]at hj;cases hj;exact hed e he hb
    ·rw[if_neg hji]at hlj;exact hcl j o' hj hlj e he hb
  ·have hins:=mZ (U:=U) (us:=us) (i:=i) (D:=λj=>listed.getD j false) (D':=λj=>(listed.setIfInBounds i true).getD j false) (s:=s0) hU hunl2 (λj=>by
     simp only[hset];by_cases hji:j=i
     ·subst hji;simp
     ·have:Nat.beq j i=false:=by
       cases hb:Nat.beq j i with
       |false=>rfl
       |true=>exact absurd (Nat.eq_of_beq_eq_true hb) hji
      simp[hji,this])
    (λj U' hj hij hD q hq hq'=>by
     have:=hnot j U' hj (by omega) (by rw[hD];simp;omega) q hq';exact (hw1 q hq).elim this.1.1 this.1.2)
   rw[hins];exact hr'
theorem zt (hV:ax V)(hT:TOk P T)(hΓ:∀ c∈Γ,ag P c)(hmix:P.follows .mixedOrders=true){id:Nat}{ops:Array Oper}{draw:Bool}(hok:∀ (i:Nat) (o:Oper),ops[i]?=some o->bF V o)
  (hguard:∀ (i:Nat) (o:Oper),ops[i]?=some o->∀ j want,o.guard=some (j,want)->∀ s,(ops[j]?).bind (·.dst)=some s->s<V.nt) {Q:Exit->Act->World->Prop} {κ:St->Option R} {r:R}
  (h:regK Γ T ops draw st κ=some r) (hκ:∀ s1,κ s1=some r->∀ a w,Rel P V s1 a w->Q .normal a w) {a:Act} {w:World} (hr:Rel P V st a w):(Code.region id ops draw).wp P Q a w:=by
 unfold regK at h;cases draw with
 |true =>
  simp only[cond_true]at h;obtain⟨us,ts,s1,hrun,h2⟩:=nJ _ _ _ _ _ h;simp only[List.nil_append]at h2;cases hb:ml ops&&nP (iG ops.toList []) ts with
  |false=>simp[hb]at h2
  |true =>
   simp only[hb,cond_true]at h2;simp only[Bool.and_eq_true]at hb;refine wp_region_any hmix ?_;have hD:∀ j,(Array.replicate ops.size false).getD j false=false:=by
    intro j;simp only[Array.getD_eq_getD_getElem?,Array.getElem?_replicate];split <;> rfl
   refine zr hV hT hΓ hok hguard hrun hb.1 hb.2 (hκ s1 h2) ops.size (Array.replicate ops.size false) a _ (by simp) ?_ ?_ ?_
   ·rw[List.countP_eq_length.2]
    ·simp
    ·intro i hi;have hi:i<ops.size:=by simpa using hi
     simp[Array.getD_eq_getD_getElem?,Array.getElem?_replicate,hi]
   ·intro j o' _ hl;rw[hD]at hl;cases hl
   ·rw[md (λj=>hD j)];obtain⟨W,hr⟩:=hr;exact⟨W,hr.world hV (w':={ w with drawn:=w.drawn+1 }) (Nat.le_refl _) rfl rfl rfl (λ_ _=>rfl)⟩
 |false =>
  simp only[cond_false]at h;obtain⟨us,ts,s1,hrun,h2⟩:=nJ _ _ _ _ _ h;refine wp_region ?_;have:=tw hV hT hΓ hok hguard ops.toList 0 st us ts s1 (by simp) hrun (hκ s1 h2) a w hr;rw[Array.length_toList,<- List.range_eq_range']at this;exact this
end
end Go.Proofs.YtmcbmojdeikcdaaGreatEv
