/- One operation looks at some slots alone. -/
import Derived.Test.YthgnfidnmnkeaaaGreatE5
namespace Go.Proofs.YthgnfidnmnkeaaaGreatEv
open Go Go.RowKit
section
variable {P:Program} {V:Env} {Γ:List Ctr} {T:TypeId→TI} {st st':St} {o:Oper} {R:Type} {κ:Upd→Option R} {r:R}
theorem fK {α β:Type}(b:Bool)(x y:Option α)(f:α→Option β):(bif b then x else y).bind f=bif b then x.bind f else y.bind f:=by cases b <;> rfl
theorem tS {b:Option (Bool×Nat×Nat)}{U:Upd}:iN st b U κ=(iN st b U some).bind κ:=by
 unfold iN
 split
 ·split
  ·simp only[Option.bind_assoc]
   congr 1
   funext y
   split <;> rfl
  ·rfl
 ·rfl
theorem tT {d:Nat}{f:FuncId}{xs:List (aF×List Leaf)}:ig Γ st d f xs κ=(ig Γ st d f xs some).bind κ:=by
 unfold ig
 cases kw Γ f with
 |none=>rfl
 |some c =>
  simp only[fJ,Option.bind_assoc]
  congr 1
  funext u
  cases mX Γ (ab u.1 st) c.ps u.2.1 with
  |none=>rfl
  |some g =>
   simp only[fK,Option.bind_assoc,Option.bind_none]
   congr 2
   funext y
   exact tS
theorem li {st0:St}{U0:Upd}{d:Nat}{E:TypeId}{e:Ty}{bytes:Nat}{p:Bool}{xs:List e.den}{ks:List (Nat×Nat)}{y:Leaf}:dw st st0 U0 d E e bytes p xs ks y κ=(dw st st0 U0 d E e bytes p xs ks y some).bind κ:=by
 unfold dw
 split
 ·simp only[fK,Option.bind_none,Option.bind_some]
 ·rfl
theorem rl {U0:Upd}{d:Nat}{E:TypeId}{e:Ty}{bytes:Nat}{x y:Leaf}:dO st U0 d E e bytes x y κ=(dO st U0 d E e bytes x y some).bind κ:=by
 unfold dO
 split
 ·split
  ·rw[fK,← li]
   rfl
  ·rfl
 ·exact li
 ·rfl
theorem rm {d:Nat}{E:TypeId}{e:Ty}{bytes:Nat}{x y:Leaf}:gu st d E e bytes x y κ=(gu st d E e bytes x y some).bind κ:=by
 unfold gu
 simp only[fZ,fK,Option.bind_assoc,← rl]
theorem lR {r j i off n:Nat}{p:Bool}{E:TypeId}{e:Ty}{xs:List e.den}{h:Option (Nat×Nat)}{ls:List Leaf}:fO st r j i off n p E e xs h ls κ=(fO st r j i off n p E e xs h ls some).bind κ:=by
 unfold fO
 simp only[Option.bind_assoc]
 congr 1
 funext old
 split
 ·rw[fK]
  congr 1
  split
  ·rfl
  ·simp only[fK,Option.bind_some]
 ·rfl
theorem rq:act Γ T o st κ=(act Γ T o st some).bind κ:=by
 cases hop:o.op <;> simp only[act,wrU,hop] <;> (repeat' split) <;>
  (try simp only[fK,Option.bind_assoc,Option.bind_none,Option.bind_some]) <;> (try rfl) <;> (try exact tT) <;> (try (rw[rm];done)) <;> (try (rw[lR];done)) <;> (try (rw[← lR];done))
theorem bb {q:Nat}(h:st' q=st q):∀ (U:Upd),ab U st' q=ab U st q
 |[]=>h
 |(r,c)::U=>by simp only[ab,bb h U]
theorem dv {x:Operand}(h:∀ t,x=.tmp t→st' t=st t):ar st' x=ar st x:=by
 cases x with
 |tmp t=>simp only[ar,h t rfl]
 |_=>rfl
theorem da {x:Operand}(h:∀ t,x=.tmp t→st' t=st t):one st' x=one st x:=by
 unfold one
 rw[dv h]
theorem j4:∀ (l1 l2:List Leaf),av (l1++l2)=av l1++av l2
 |[],_=>rfl
 |l::l1,l2=>by cases l <;> simp[av,j4 l1 l2]
theorem aJ (l:Leaf)(ls:List Leaf):av (l::ls)=av [l]++av ls:=j4 [l] ls
theorem eT:∀ (n:Nat) (ls:List Leaf) (q:Nat),q∈av (ls.drop n)→q∈av ls
 |0,_,_,h=>h
 |n+1,[],_,h=>h
 |n+1,l::ls,q,h=>by rw[aJ];exact List.mem_append_right _ (eT n ls q h)
theorem pm:∀ (n:Nat) (ls:List Leaf) (q:Nat),q∈av (ls.take n)→q∈av ls
 |0,_,_,h=>by simp[av]at h
 |n+1,[],_,h=>by simp[av]at h
 |n+1,l::ls,q,h=>by
  rw[List.take_succ_cons,aJ,List.mem_append]at h
  rw[aJ,List.mem_append]
  exact h.imp id (pm n ls q)
theorem oR:∀ {ls:List Leaf} {k:Nat} {l:Leaf},ls[k]?=some l→∀ q∈av [l],q∈av ls
 |[],_,_,h,_,_=>by simp at h
 |l'::ls,0,l,h,q,hq=>by simp at h;subst h;rw[aJ];exact List.mem_append_left _ hq
 |l'::ls,k+1,l,h,q,hq=>by rw[aJ];exact List.mem_append_right _ (oR (by simpa using h) q hq)
theorem iB {ks:List (Nat×Nat×Nat)}{ep:Nat}(h:∀ q∈EPO::ks.map (·.1),st' q=st q):bd st' ks ep=bd st ks ep:=by
 unfold bd
 rw[h EPO (List.mem_cons_self ..)]
 congr 1
 induction ks with
 |nil=>rfl
 |cons k ks ih =>
  rw[List.all_cons,List.all_cons,ih (fun q hq=>h q (by simp at hq ⊢;rcases hq with hq|hq;exact .inl hq;exact .inr (.inr hq))),h k.1 (by simp)]
theorem gm {p:Bool}{ks:List (Nat×Nat×Nat)}{ep:Nat}{loc:Option (Nat×Nat×Nat)}{E:TypeId}{e:Ty}{xs:List e.den}:av [.nal p ks ep loc E e xs]=EPO::ks.map (·.1):=by simp[av]
theorem sU {p:Bool}{ks:List (Nat×Nat×Nat)}{ep:Nat}{a:Ty}{x:a.den}{off:Nat}:av [.np p ks ep a x off]=EPO::ks.map (·.1):=by simp[av]
theorem bW {l:Leaf}(h:∀ q∈av [l],st' q=st q):aB st' l=aB st l:=by
 cases l with
 |al r j v=>simp only[aB,h r (by simp[av])]
 |nal p ks ep loc E e xs=>rw[gm]at h;simp only[aB,iB h]
 |_=>rfl
theorem iM:∀ (a:Ty) (ls:List Leaf) (p:Bool) (x:a.den) (rest:List Leaf),aS st a ls=some (p,x,rest)→∃ l1,ls=l1++rest
 |.int k,ls,p,x,rest,h=>by
  simp only[aS]at h
  split at h
  ·split at h
   ·simp at h;exact⟨[_],by rw[← h.2.2];rfl⟩
   ·cases h
  ·cases h
 |.bool,ls,p,x,rest,h=>by
  simp only[aS]at h
  split at h
  ·simp at h;exact⟨[_],by rw[← h.2.2];rfl⟩
  ·cases h
 |.str,ls,p,x,rest,h=>by
  simp only[aS]at h
  split at h
  ·simp at h;exact⟨[_],by rw[← h.2.2];rfl⟩
  ·cases h
 |.unit,ls,p,x,rest,h=>by
  simp only[aS,Option.some.injEq,Prod.mk.injEq]at h
  exact⟨[],by rw[h.2.2];rfl⟩
 |.hdr,ls,p,x,rest,h=>by
  simp only[aS]at h
  split at h
  ·split at h
   ·simp at h;exact⟨[_],by rw[← h.2.2];rfl⟩
   ·cases h
  ·cases h
 |.pair a b,ls,p,x,rest,h=>by
  simp only[aS]at h
  split at h
  ·rename_i q y ls1 ha
   split at h
   ·rename_i q' z ls2 hb
    simp at h
    obtain⟨l1,e1⟩:=iM a ls q y ls1 ha
    obtain⟨l2,e2⟩:=iM b ls1 q' z ls2 hb
    exact⟨l1++l2,by rw[e1,e2,h.2.2,List.append_assoc]⟩
   ·cases h
  ·cases h
 |.list m E e,ls,p,x,rest,h=>by
  simp only[aS]at h
  split at h
  ·split at h
   ·simp at h;exact⟨[_],by rw[← h.2.2];rfl⟩
   ·cases h
  ·cases h
theorem fM:∀ (a:Ty) (ls:List Leaf),(∀ q∈av ls,st' q=st q)→aS st' a ls=aS st a ls
 |.int k,ls,h=>rfl
 |.bool,ls,h=>rfl
 |.str,ls,h=>rfl
 |.unit,ls,h=>rfl
 |.hdr,ls,h=>by
  cases ls with
  |nil=>rfl
  |cons l ls =>
   simp only[aS]
   rw[bW (l:=l) (fun q hq=>h q (by rw[aJ];exact List.mem_append_left _ hq))]
 |.pair a b,ls,h=>by
  simp only[aS,fM a ls h]
  cases ha:aS st a ls with
  |none=>rfl
  |some x =>
   obtain⟨p,y,ls1⟩:=x
   obtain⟨l1,e1⟩:=iM a ls p y ls1 ha
   simp only
   rw[fM b ls1 (fun q hq=>h q (by rw[e1,j4];exact List.mem_append_right _ hq))]
 |.list m E e,ls,h=>by
  cases ls with
  |nil=>rfl
  |cons l ls =>
   simp only[aS]
   rw[bW (l:=l) (fun q hq=>h q (by rw[aJ];exact List.mem_append_left _ hq))]
theorem dY {a:Ty}{ls:List Leaf}(h:∀ q∈av ls,st' q=st q):ck st' a ls=ck st a ls:=by
 unfold ck
 rw[fM a ls h]
theorem lS {e:Ty}:∀ (n:Nat) (ls:List Leaf),(∀ q∈av ls,st' q=st q)→eR st' e n ls=eR st e n ls
 |0,_,_=>rfl
 |n+1,ls,h=>by
  simp only[eR,dY (ls:=ls.take e.cells) (fun q hq=>h q (pm _ _ q hq)),lS n (ls.drop e.cells) (fun q hq=>h q (eT _ _ q hq))]
theorem hX:∀ {ls:List Leaf},(∀ q∈av ls,st' q=st q)→bh st' ls=bh st ls
 |[],_=>rfl
 |l::ls,h=>by
  have ih:=hX (ls:=ls) (fun q hq=>h q (by rw[aJ];exact List.mem_append_right _ hq))
  cases l with
  |al r j v=>simp only[bh,ih,bW (l:=.al r j v) (fun q hq=>h q (by rw[aJ];exact List.mem_append_left _ hq))]
  |nal p ks ep loc E e xs=>simp only[bh,ih,bW (l:=.nal p ks ep loc E e xs) (fun q hq=>h q (by rw[aJ];exact List.mem_append_left _ hq))]
  |_=>simpa[bh]using ih
theorem nz:∀ {ls:List Leaf},(∀ q∈av ls,st' q=st q)→bN st' ls=bN st ls
 |[],_=>rfl
 |l::ls,h=>by
  have ih:=nz (ls:=ls) (fun q hq=>h q (by rw[aJ];exact List.mem_append_right _ hq))
  cases l with
  |al r j v=>simp only[bN,ih,bW (l:=.al r j v) (fun q hq=>h q (by rw[aJ];exact List.mem_append_left _ hq))]
  |_=>simpa[bN]using ih
theorem oS:∀ {ls:List Leaf},(∀ q∈av ls,st' q=st q)→c5 st' ls=c5 st ls
 |[],_=>rfl
 |l::ls,h=>by
  have ih:=oS (ls:=ls) (fun q hq=>h q (by rw[aJ];exact List.mem_append_right _ hq))
  cases l with
  |nal p ks ep loc E e xs =>
   cases loc with
   |none=>simp only[c5,ih,bW (l:=.nal p ks ep none E e xs) (fun q hq=>h q (by rw[aJ];exact List.mem_append_left _ hq))]
   |some x=>simpa[c5]using ih
  |_=>simpa[c5]using ih
theorem nA {ls:List Leaf}(h:∀ q∈av ls,st' q=st q):di st' ls=di st ls:=by
 unfold di
 induction ls with
 |nil=>rfl
 |cons l ls ih =>
  rw[List.map_cons,List.map_cons,ih (fun q hq=>h q (by rw[aJ];exact List.mem_append_right _ hq))]
  unfold fq
  rw[bW (fun q hq=>h q (by rw[aJ];exact List.mem_append_left _ hq))]
theorem dQ:∀ {ls:List Leaf} {x:Nat×Nat},x∈bh st ls→x.1∈av ls
 |[],_,h=>by simp[bh]at h
 |l::ls,x,h=>by
  cases l with
  |al r j v =>
   simp only[bh,List.mem_append]at h
   rcases h with h|h
   ·split at h
    ·simp at h;subst h;simp[av]
    ·simp at h
   ·rw[aJ];exact List.mem_append_right _ (dQ h)
  |nal p ks ep loc E e xs =>
   simp only[bh,List.mem_append]at h
   rcases h with h|h
   ·split at h
    ·obtain⟨k,hk,rfl⟩:=List.mem_map.1 h
     rw[aJ,gm]
     exact List.mem_append_left _ (List.mem_cons_of_mem _ (List.mem_map.2 ⟨k,hk,rfl⟩))
    ·simp at h
   ·rw[aJ];exact List.mem_append_right _ (dQ h)
  |_=>(simp only[bh]at h;rw[aJ];exact List.mem_append_right _ (dQ h))
theorem hY:∀ {ls:List Leaf} {x:Nat×Nat},x∈bN st ls→x.1∈av ls
 |[],_,h=>by simp[bN]at h
 |l::ls,x,h=>by
  cases l with
  |al r j v =>
   simp only[bN,List.mem_append]at h
   rcases h with h|h
   ·split at h
    ·simp at h;subst h;simp[av]
    ·simp at h
   ·rw[aJ];exact List.mem_append_right _ (hY h)
  |_=>(simp only[bN]at h;rw[aJ];exact List.mem_append_right _ (hY h))
theorem f9:∀ {ls:List Leaf} {x:Nat×Nat},x∈c5 st ls→x.1∈av ls
 |[],_,h=>by simp[c5]at h
 |l::ls,x,h=>by
  cases l with
  |nal p ks ep loc E e xs =>
   cases loc with
   |none =>
    simp only[c5,List.mem_append]at h
    rcases h with h|h
    ·split at h
     ·obtain⟨k,hk,rfl⟩:=List.mem_map.1 h
      rw[aJ,gm]
      exact List.mem_append_left _ (List.mem_cons_of_mem _ (List.mem_map.2 ⟨k,hk,rfl⟩))
     ·simp at h
    ·rw[aJ];exact List.mem_append_right _ (f9 h)
   |some y=>(simp only[c5]at h;rw[aJ];exact List.mem_append_right _ (f9 h))
  |_=>(simp only[c5]at h;rw[aJ];exact List.mem_append_right _ (f9 h))
theorem gn:∀ {ks:List (Nat×Nat)},(∀ x∈ks,st' x.1=st x.1)→aK st' ks=aK st ks
 |[],_=>rfl
 |(r,j)::ks,h=>by
  simp only[aK,gn (ks:=ks) (fun x hx=>h x (List.mem_cons_of_mem _ hx)),bb (h (r,j) (List.mem_cons_self ..))]
theorem jd:∀ {ks:List (Nat×Nat)},(∀ x∈ks,st' x.1=st x.1)→aC st' ks=aC st ks
 |[],_=>rfl
 |(r,j)::ks,h=>by
  simp only[aC,jd (ks:=ks) (fun x hx=>h x (List.mem_cons_of_mem _ hx)),bb (h (r,j) (List.mem_cons_self ..))]
theorem rr {ls:List Leaf}(h:∀ q∈av ls,st' q=st q):mvU st' ls=mvU st ls:=by
 unfold mvU
 rw[oS h,nz h,jd (fun x hx=>h _ (f9 hx))]
 simp only
 rw[gn (fun x hx=>bb (h _ (hY hx)) _)]
theorem oT {ls:List Leaf}(h:∀ q∈av ls,st' q=st q):gb st' ls=gb st ls:=by
 unfold gb
 rw[oS h,nz h]
theorem hZ:∀ (a:Ty) (ls:List Leaf),(∀ q∈av ls,st' q=st q)→take st' a ls=take st a ls
 |.int k,ls,h=>by simp only[take,fM (.int k) ls h]
 |.bool,ls,h=>by simp only[take,fM .bool ls h]
 |.str,ls,h=>by simp only[take,fM .str ls h]
 |.unit,ls,h=>rfl
 |.hdr,ls,h=>by simp only[take,fM .hdr ls h]
 |.pair a b,ls,h=>by
  simp only[take,hZ a ls h]
  cases ha:take st a ls with
  |none=>rfl
  |some x =>
   have hr:=jc.take_rest a ls x ha
   simp only
   rw[hZ b x.rest (fun q hq=>h q (eT a.cells ls q (by rw[← hr];exact hq)))]
 |.list m E e,ls,h=>by
  cases ls with
  |nil=>rfl
  |cons l ls =>
   have hl:∀ q∈av [l],st' q=st q:=fun q hq=>h q (by rw[aJ];exact List.mem_append_left _ hq)
   simp only[take,bW hl,hX hl]
   congr 1
   split
   ·rename_i r j v
    rw[bW hl]
   ·rfl
   ·rfl
theorem fV {a:Ty}{ls:List Leaf}(h:∀ q∈av ls,st' q=st q):bT st' a ls=bT st a ls:=by
 unfold bT
 rw[hZ a ls h]
theorem mr:∀ (a:Ty) (ls:List Leaf) (t:ch a.den),take st a ls=some t→(∀ z∈t.frz,z.1∈av ls)∧∀ z∈t.kill,z.1∈av ls
 |.int k,ls,t,h=>by simp only[take,Option.map_eq_some_iff]at h;obtain⟨_,_,rfl⟩:=h;exact⟨by simp,by simp⟩
 |.bool,ls,t,h=>by simp only[take,Option.map_eq_some_iff]at h;obtain⟨_,_,rfl⟩:=h;exact⟨by simp,by simp⟩
 |.str,ls,t,h=>by simp only[take,Option.map_eq_some_iff]at h;obtain⟨_,_,rfl⟩:=h;exact⟨by simp,by simp⟩
 |.hdr,ls,t,h=>by simp only[take,Option.map_eq_some_iff]at h;obtain⟨_,_,rfl⟩:=h;exact⟨by simp,by simp⟩
 |.unit,ls,t,h=>by simp only[take,Option.some.injEq]at h;subst h;exact⟨by simp,by simp⟩
 |.pair a b,ls,t,h=>by
  simp only[take]at h
  split at h
  ·rename_i x hx
   split at h
   ·rename_i y hy
    simp only[Option.some.injEq]at h
    subst h
    have hr:=jc.take_rest a ls x hx
    obtain⟨h1,h2⟩:=mr a ls x hx
    obtain⟨h3,h4⟩:=mr b x.rest y hy
    rw[hr]at h3 h4
    exact⟨fun z hz=>(List.mem_append.1 hz).elim (h1 z) (fun hz=>eT _ _ _ (h3 z hz)),fun z hz=>(List.mem_append.1 hz).elim (h2 z) (fun hz=>eT _ _ _ (h4 z hz))⟩
   ·cases h
  ·cases h
 |.list m E e,ls,t,h=>by
  cases ls with
  |nil=>simp[take]at h
  |cons l ls =>
   have hl:∀ q∈av [l],q∈av (l::ls):=fun q hq=>by rw[aJ];exact List.mem_append_left _ hq
   cases m with
   |false =>
    simp only[take,cond_false]at h
    split at h
    ·simp only[Option.some.injEq]at h
     subst h
     exact⟨fun z hz=>hl _ (dQ hz),by simp⟩
    ·cases h
   |true =>
    simp only[take,cond_true]at h
    split at h
    ·split at h
     ·simp only[Option.map_eq_some_iff]at h
      obtain⟨_,_,rfl⟩:=h
      exact⟨by simp,fun z hz=>by simp at hz;subst hz;exact hl _ (by simp[av])⟩
     ·cases h
    ·simp only[Option.some.injEq]at h
     subst h
     exact⟨by simp,by simp⟩
    ·cases h
theorem gS {a:Ty}{ls:List Leaf}{t:ch a.den}(h:bT st a ls=some t):(∀ z∈t.frz,z.1∈av ls)∧∀ z∈t.kill,z.1∈av ls:=by
 unfold bT at h
 split at h
 ·rename_i p x f k hq
  simp only[Option.some.injEq]at h
  subst h
  exact mr a ls _ hq
 ·cases h
theorem iV:∀ {off n:Nat} (a:Ty) (pos:Nat) (x:a.den) (ls:List Leaf) (t:ch a.den),cG st off n a pos x ls=some t→∃ k,t.rest=ls.drop k
 |off,n,.pair a b,pos,x,ls,t,h=>by
  simp only[cG]at h
  split at h
  ·rename_i u hu
   split at h
   ·rename_i v hv
    simp only[Option.some.injEq]at h
    subst h
    obtain⟨k1,e1⟩:=iV a pos x.1 ls u hu
    obtain⟨k2,e2⟩:=iV b (pos+a.cells) x.2 u.rest v hv
    exact⟨k1+k2,by show v.rest=_;rw[e2,e1,List.drop_drop]⟩
   ·cases h
  ·cases h
 |off,n,.unit,pos,x,ls,t,h=>by simp only[cG,Option.some.injEq]at h;subst h;exact⟨0,rfl⟩
 |off,n,.hdr,pos,x,ls,t,h=>by simp[cG]at h
 |off,n,.int k,pos,x,ls,t,h=>sc (a:=.int k) h
 |off,n,.bool,pos,x,ls,t,h=>sc (a:=.bool) h
 |off,n,.str,pos,x,ls,t,h=>sc (a:=.str) h
 |off,n,.list m E e,pos,x,ls,t,h=>sc (a:=.list m E e) h
where
 sc {a:Ty} {b:Bool} {x:a.den} {ls:List Leaf} {t:ch a.den} (h:(bif b then take st a ls else some ⟨false,x,[],[],ls⟩)=some t):∃ k,t.rest=ls.drop k:=by
  cases b with
  |true=>exact⟨_,jc.take_rest a ls t h⟩
  |false=>simp only[cond_false,Option.some.injEq]at h;subst h;exact⟨0,rfl⟩
theorem nB:∀ {off n:Nat} (a:Ty) (pos:Nat) (x:a.den) (ls:List Leaf),(∀ q∈av ls,st' q=st q)→cG st' off n a pos x ls=cG st off n a pos x ls
 |off,n,.pair a b,pos,x,ls,h=>by
  simp only[cG,nB a pos x.1 ls h]
  cases hu:cG st off n a pos x.1 ls with
  |none=>rfl
  |some u =>
   obtain⟨k,e⟩:=iV a pos x.1 ls u hu
   simp only
   rw[nB b (pos+a.cells) x.2 u.rest (fun q hq=>h q (eT k ls q (by rw[← e];exact hq)))]
 |off,n,.unit,pos,x,ls,h=>rfl
 |off,n,.hdr,pos,x,ls,h=>rfl
 |off,n,.int k,pos,x,ls,h=>by simp only[cG,hZ (.int k) ls h]
 |off,n,.bool,pos,x,ls,h=>by simp only[cG,hZ .bool ls h]
 |off,n,.str,pos,x,ls,h=>by simp only[cG,hZ .str ls h]
 |off,n,.list m E e,pos,x,ls,h=>by simp only[cG,hZ (.list m E e) ls h]
theorem nC:∀ {off n:Nat} (a:Ty) (pos:Nat) (x:a.den) (ls:List Leaf) (t:ch a.den),cG st off n a pos x ls=some t→(∀ z∈t.frz,z.1∈av ls)∧∀ z∈t.kill,z.1∈av ls
 |off,n,.pair a b,pos,x,ls,t,h=>by
  simp only[cG]at h
  split at h
  ·rename_i u hu
   split at h
   ·rename_i v hv
    simp only[Option.some.injEq]at h
    subst h
    obtain⟨k,e⟩:=iV a pos x.1 ls u hu
    obtain⟨h1,h2⟩:=nC a pos x.1 ls u hu
    obtain⟨h3,h4⟩:=nC b (pos+a.cells) x.2 u.rest v hv
    rw[e]at h3 h4
    exact⟨fun z hz=>(List.mem_append.1 hz).elim (h1 z) (fun hz=>eT _ _ _ (h3 z hz)),fun z hz=>(List.mem_append.1 hz).elim (h2 z) (fun hz=>eT _ _ _ (h4 z hz))⟩
   ·cases h
  ·cases h
 |off,n,.unit,pos,x,ls,t,h=>by simp only[cG,Option.some.injEq]at h;subst h;exact⟨by simp,by simp⟩
 |off,n,.hdr,pos,x,ls,t,h=>by simp[cG]at h
 |off,n,.int k,pos,x,ls,t,h=>sc (a:=.int k) h
 |off,n,.bool,pos,x,ls,t,h=>sc (a:=.bool) h
 |off,n,.str,pos,x,ls,t,h=>sc (a:=.str) h
 |off,n,.list m E e,pos,x,ls,t,h=>sc (a:=.list m E e) h
where
 sc {a:Ty} {b:Bool} {x:a.den} {ls:List Leaf} {t:ch a.den} (h:(bif b then take st a ls else some ⟨false,x,[],[],ls⟩)=some t):(∀ z∈t.frz,z.1∈av ls)∧∀ z∈t.kill,z.1∈av ls:=by
  cases b with
  |true=>exact mr a ls t h
  |false=>simp only[cond_false,Option.some.injEq]at h;subst h;exact⟨by simp,by simp⟩
theorem sW {U:Upd}{d:Nat}{sh:aF}{ls:List Leaf}(h:st' d=st d):bP st' U d sh ls=bP st U d sh ls:=by
 simp only[bP,bb h]
theorem pn:∀ {xs:List Operand} {t:Nat},Operand.tmp t∈xs→t∈gv xs
 |[],_,h=>by simp at h
 |x::xs,t,h=>by
  rcases List.mem_cons.1 h with rfl|h
  ·simp[gv]
  ·have ih:=pn h
   cases x <;> simp[gv,ih]
theorem lT (t n:Nat):∀ (j:Nat) (ls:List Leaf) (q:Nat),q∈av (br t n j ls)→q=t∨q∈av ls
 |_,[],_,h=>by simp[br,av]at h
 |j,l::ls,q,h=>by
  simp only[br]at h
  rw[aJ,List.mem_append]at h
  rw[aJ,List.mem_append]
  rcases h with h|h
  ·cases l with
   |own p hh E e xs=>simp[kt,av]at h;exact .inl h
   |_=>exact .inr (.inl h)
  ·exact (lT t n (j+1) ls q h).imp id .inr
theorem j5:∀ (l1 l2:List Leaf),ay (l1++l2)=ay l1++ay l2
 |[],_=>rfl
 |l::l1,l2=>by cases l <;> simp[ay,j5 l1 l2]
theorem cY (l:Leaf)(ls:List Leaf):ay (l::ls)=ay [l]++ay ls:=j5 [l] ls
theorem eU:∀ {ls:List Leaf} {q:Nat},q∈av ls→q∈ay ls
 |[],_,h=>by simp[av]at h
 |l::ls,q,h=>by
  rw[aJ,List.mem_append]at h
  rw[cY,List.mem_append]
  rcases h with h|h
  ·left
   cases l with
   |nal p ks ep loc E e xs=>simp[av]at h;simpa[ay]using h
   |np p ks ep a x off=>simp[av]at h;simpa[ay]using h
   |_=>simp[av]at h <;> simp[ay,h]
  ·exact .inr (eU h)
theorem lU (t n:Nat):∀ (j:Nat) (ls:List Leaf) (q:Nat),q∈ay (br t n j ls)→q=t∨q∈ay ls
 |_,[],_,h=>by simp[br,ay]at h
 |j,l::ls,q,h=>by
  simp only[br]at h
  rw[cY,List.mem_append]at h
  rw[cY,List.mem_append]
  rcases h with h|h
  ·cases l with
   |own p hh E e xs=>simp[kt,ay]at h;exact .inl h
   |_=>exact .inr (.inl h)
  ·exact (lU t n (j+1) ls q h).imp id .inr
theorem po {x:Operand}{q:Nat}(h:q∈av (ar st x).2):∃ t,x=.tmp t∧(q=t∨q∈av (st t).ls):=by
 cases x with
 |tmp t =>
  simp only[ar]at h
  cases hb:Nat.blt t GH with
  |false=>simp[hb,av]at h
  |true=>simp only[hb,cond_true]at h;exact⟨t,rfl,lT _ _ _ _ _ h⟩
 |const v =>
  simp only[ar]at h
  split at h
  ·rename_i l hl
   unfold gq at hl
   split at hl <;> simp at hl <;> subst hl <;> simp[av]at h
  ·simp[av]at h
 |func f=>simp[ar,av]at h
 |global g=>simp[ar,av]at h
theorem pp {x:Operand}{q:Nat}(h:q∈ay (ar st x).2):∃ t,x=.tmp t∧(q=t∨q∈ay (st t).ls):=by
 cases x with
 |tmp t =>
  simp only[ar]at h
  cases hb:Nat.blt t GH with
  |false=>simp[hb,ay]at h
  |true=>simp only[hb,cond_true]at h;exact⟨t,rfl,lU _ _ _ _ _ h⟩
 |const v =>
  simp only[ar]at h
  split at h
  ·rename_i l hl
   unfold gq at hl
   split at hl <;> simp at hl <;> subst hl <;> simp[ay]at h
  ·simp[ay]at h
 |func f=>simp[ar,ay]at h
 |global g=>simp[ar,ay]at h
theorem oU {x:Operand}{l:Leaf}(h:one st x=l)(hd:l≠.dead):(ar st x).2=[l]:=by
 unfold one at h
 split at h
 ·rename_i l' he;rw[he,h]
 ·exact absurd h.symm hd
theorem ia {x:Operand}{q:Nat}(h:q∈av [one st x]):q∈av (ar st x).2:=by
 by_cases hd:one st x=.dead
 ·rw[hd]at h;simp[av]at h
 ·rw[oU rfl hd];exact h
theorem ru {x:Operand}{q:Nat}(h:q∈ay [one st x]):q∈ay (ar st x).2:=by
 by_cases hd:one st x=.dead
 ·rw[hd]at h;simp[ay]at h
 ·rw[oU rfl hd];exact h
def ir:Leaf→Bool×Leaf
 |.own _ _ _ e xs=>(true,.ep 0 0 0 e.cells xs.length 0)
 |l=>(false,l)
def bA (c:bE):Nat×aF×List (Bool×Leaf):=(c.ver,c.sh,c.ls.map ir)
theorem rv {l l':Leaf}(h:ir l'=ir l):l'=l∨∃ (p p':Bool) (hh hh':Option (Nat×Nat)) (E E':TypeId) (e e':Ty) (xs:List e.den) (xs':List e'.den),l=.own p hh E e xs∧l'=.own p' hh' E' e' xs'∧e'.cells=e.cells∧xs'.length=xs.length:=by
 cases l <;> cases l' <;> simp only[ir,Prod.mk.injEq,Bool.false_eq_true,reduceCtorEq,false_and,and_false,true_and,Leaf.ep.injEq,Bool.true_eq_false]at h <;>
  first
  |exact .inr ⟨_,_,_,_,_,_,_,_,_,_,rfl,rfl,h.1,h.2.1⟩
  |exact .inr ⟨_,_,_,_,_,_,_,_,_,_,rfl,rfl,h.1,h.2⟩
  |exact .inl rfl
  |exact .inl (by rw[h])
  |exact .inl h
  |(obtain⟨rfl,rfl,rfl,rfl,rfl,rfl⟩:=h;exact .inl rfl)
theorem oe (t n:Nat):∀ (j:Nat) (ls ls':List Leaf),ls'.map ir=ls.map ir→br t n j ls'=br t n j ls
 |_,[],[],_=>rfl
 |_,[],_::_,h=>by simp at h
 |_,_::_,[],h=>by simp at h
 |j,l::ls,l'::ls',h=>by
  simp only[List.map_cons,List.cons.injEq]at h
  simp only[br,oe t n (j+1) ls ls' h.2]
  rcases rv h.1 with e|⟨p,p',hh,hh',E,E',e,e',xs,xs',e1,e2,_,_⟩
  ·rw[e]
  ·rw[e1,e2];rfl
theorem vf {x:Operand}(h:∀ t,x=.tmp t→bA (st' t)=bA (st t)):ar st' x=ar st x:=by
 cases x with
 |tmp t =>
  have:=h t rfl
  simp only[bA,Prod.mk.injEq]at this
  simp only[ar,this.1,this.2.1,oe _ _ _ _ _ this.2.2]
 |_=>rfl
theorem wA {x:Operand}(h:∀ t,x=.tmp t→bA (st' t)=bA (st t)):one st' x=one st x:=by
 unfold one
 rw[vf h]
theorem vg {c c':bE}(h:bA c'=bA c)(j:Nat):ir (c'.ls.getD j .dead)=ir (c.ls.getD j .dead):=by
 simp only[bA,Prod.mk.injEq]at h
 have:=congrArg (fun l=>l[j]?) h.2.2
 simp only[List.getElem?_map]at this
 rw[List.getD_eq_getElem?_getD,List.getD_eq_getElem?_getD]
 generalize c'.ls[j]?=a at this
 generalize c.ls[j]?=b at this
 match a,b,this with
 |none,none,_=>rfl
 |some x,some y,h=>exact Option.some.inj h
theorem pq (l:Leaf):kb l=(ir l).1:=by cases l <;> rfl
theorem wd {ks:List (Nat×Nat×Nat)}{ep:Nat}(h:∀ q∈EPO::ks.map (·.1),bA (st' q)=bA (st q)):bd st' ks ep=bd st ks ep:=by
 unfold bd
 have hE:=h EPO (List.mem_cons_self ..)
 simp only[bA,Prod.mk.injEq]at hE
 rw[hE.1]
 congr 1
 induction ks with
 |nil=>rfl
 |cons k ks ih =>
  have hk:=h k.1 (by simp)
  have hv:(st' k.1).ver=(st k.1).ver:=by simp only[bA,Prod.mk.injEq]at hk;exact hk.1
  rw[List.all_cons,List.all_cons,ih (fun q hq=>h q (by simp at hq ⊢;rcases hq with hq|hq;exact .inl hq;exact .inr (.inr hq))),pq,pq,vg hk,hv]
end
end Go.Proofs.YthgnfidnmnkeaaaGreatEv
namespace Go.Proofs.YthgnfidnmnkeaaaGreatEv
open Go Go.RowKit
section
variable {P:Program} {V:Env} {Γ:List Ctr} {T:TypeId→TI} {st st':St} {o:Oper} {R:Type} {κ:Upd→Option R} {r:R}
theorem rx {d:Nat}(hd:o.dst=some d)(h:∀ q∈eL st o,st' q=st q):st' d=st d∧st' (B0+d)=st (B0+d):=by
 refine⟨h d ?_,h (B0+d) ?_⟩ <;> simp[eL,wm,hd]
theorem j6 {ls:List Leaf}(h:∀ q∈av ls,st' q=st q):∀ x∈bh st ls,st' x.1=st x.1:=fun x hx=>h _ (dQ hx)
theorem oh {flds:List (Nat×Nat×Bool)}:∀ (ps:List (Nat×Operand)) (ls:List Leaf),(∀ x∈ps,∀ t,x.2=.tmp t→st' t=st t)→eK st' flds ps ls=eK st flds ps ls
 |[],_,_=>rfl
 |(i,x)::ps,ls,h=>by
  simp only[eK,dv (h (i,x) (List.mem_cons_self ..))]
  split
  ·rw[oh ps _ (fun y hy=>h y (List.mem_cons_of_mem _ hy))]
  ·rfl
theorem mO {e:Ty}:∀ (ps:List (Nat×Operand)) (k:Nat),(∀ x∈ps,(∀ t,x.2=.tmp t→st' t=st t)∧∀ q∈av (ar st x.2).2,st' q=st q)→dR st' e k ps=dR st e k ps
 |[],_,_=>rfl
 |(i,x)::ps,k,h=>by
  have h1:=h (i,x) (List.mem_cons_self ..)
  simp only[dR,dv h1.1,fV h1.2,mO ps (k+1) (fun y hy=>h y (List.mem_cons_of_mem _ hy))]
theorem mP {e:Ty}:∀ (ps:List (Nat×Operand)) (k:Nat) (u:ch (List e.den)),dR st e k ps=some u→∀ z,z∈u.frz∨z∈u.kill→∃ x∈ps,z.1∈av (ar st x.2).2
 |[],_,_,h=>by simp only[dR,Option.some.injEq]at h;subst h;simp
 |(i,x)::ps,k,u,h=>by
  simp only[dR]at h
  cases hb:Nat.beq i k&&decide ((ar st x).1=a7 e.isAgg) with
  |false=>simp[hb]at h
  |true =>
   simp only[hb,cond_true]at h
   split at h
   ·rename_i t1 u1 hg hbe
    simp only[Option.some.injEq]at h
    subst h
    intro z hz
    obtain⟨p1,p2⟩:=gS hg
    have hmem:(z∈t1.frz∨z∈t1.kill)∨(z∈u1.frz∨z∈u1.kill):=by
     rcases hz with hz|hz <;> rcases List.mem_append.1 hz with hz|hz
     ·exact .inl (.inl hz)
     ·exact .inr (.inl hz)
     ·exact .inl (.inr hz)
     ·exact .inr (.inr hz)
    rcases hmem with hz|hz
    ·exact⟨(i,x),List.mem_cons_self ..,hz.elim (p1 z) (p2 z)⟩
    ·obtain⟨y,hy,h2⟩:=mP ps (k+1) u1 hbe z hz
     exact⟨y,List.mem_cons_of_mem _ hy,h2⟩
   ·cases h
theorem lV {x:Option Operand}{n:Int}(h:∀ y,x=some y→∀ t,y=.tmp t→st' t=st t):cO st' x n=cO st x n:=by
 cases x with
 |none=>rfl
 |some y=>simp only[cO,da (h y rfl)]
theorem sX:∀ (xs:List Operand) (acc:Option (List Nat)),(∀ x∈xs,∀ t,x=.tmp t→st' t=st t) →
  xs.foldl (fun (acc:Option (List Nat)) x=>acc.bind fun l=>match one st' x with|.bp b 0=>some (l++[b])|_=>none) acc =
  xs.foldl (fun (acc:Option (List Nat)) x=>acc.bind fun l=>match one st x with|.bp b 0=>some (l++[b])|_=>none) acc
 |[],_,_=>rfl
 |x::xs,acc,h=>by
  simp only[List.foldl_cons,da (h x (List.mem_cons_self ..))]
  exact sX xs _ (fun y hy=>h y (List.mem_cons_of_mem _ hy))
theorem oi {l:Leaf}(hT:st' TMP=st TMP)(hE:st' EPO=st EPO)(h:∀ q∈av [l],st' q=st q):bX st' l=bX st l:=by
 cases l with
 |nal p ks ep loc E e xs =>
  rw[gm]at h
  simp only[bX,iB h,hT,hE]
  congr 1
  match ks,loc,h with
  |[(r,j,n)],some (i,sz,off),h =>
   have hr:=h r (by simp)
   simp only[hr]
  |[(r,j,n)],none,_=>rfl
  |[],_,_=>rfl
  |_::_::_,_,_=>rfl
 |_=>rfl
theorem mQ {l l':Leaf}{U:Upd}(h:bX st l=some (U,l')):∃ n,l'=.al TMP 0 n∧∀ q,q≠TMP→∀ z∈ay (ab U st q).ls,z∈ay (st q).ls:=by
 cases l with
 |nal p ks ep loc E e xs =>
  simp only[bX]at h
  cases hvk:bd st ks ep with
  |false=>simp[hvk]at h
  |true =>
   rw[hvk]at h
   simp only[cond_true]at h
   split at h
   ·rename_i r j n0 i sz off
    split at h
    ·rename_i p' E' e' xs' hg
     cases hb:!Nat.beq r TMP&&!Nat.beq r EPO&&Nat.beq sz e'.cells with
     |false=>simp[hb]at h
     |true =>
      rw[hb]at h
      simp only[cond_true]at h
      split at h
      ·split at h
       ·rename_i y _ _ _ _ _
        simp only[Option.some.injEq,Prod.mk.injEq]at h
        obtain⟨rfl,rfl⟩:=h
        refine⟨_,rfl,fun q hq z hz=>?_⟩
        rw[aM]at hz
        rcases aj r q ⟨(st r).ver,(st r).sh,aP (st r).ls j (.own p' (some (i,off)) E' e' xs')⟩ (ab [(TMP,⟨(st TMP).ver+1,.one,[.own (p'&&e'.shy) none _ _ _]⟩),(EPO,bI (st EPO))] st) with ⟨rfl,e0⟩|⟨_,e0⟩
        ·rw[e0]at hz
         exact refs_set hz
        ·rw[e0,aM,aG hq]at hz
         rcases aj EPO q (bI (st EPO)) st with ⟨rfl,e1⟩|⟨_,e1⟩ <;> rw[e1]at hz <;> exact hz
       ·cases h
      ·cases h
    ·cases h
   ·cases h
 |_=>simp[bX]at h
where
 refs_set {ls:List Leaf} {j z:Nat} {p:Bool} {hh:Option (Nat×Nat)} {E:TypeId} {e:Ty} {xs:List e.den} (h:z∈ay (aP ls j (.own p hh E e xs))):z∈ay ls:=by
  unfold aP at h
  induction ls generalizing j with
  |nil=>simpa using h
  |cons l ls ih =>
   cases j with
   |zero =>
    rw[List.set_cons_zero,cY,List.mem_append]at h
    rw[cY,List.mem_append]
    rcases h with h|h
    ·simp[ay]at h
    ·exact .inr h
   |succ j =>
    rw[List.set_cons_succ,cY,List.mem_append]at h
    rw[cY,List.mem_append]
    exact h.imp id ih
theorem sq {l l':Leaf}{U:Upd}(h:bX st l=some (U,l')):ay (ab U st TMP).ls=[]:=by
 cases l with
 |nal p ks ep loc E e xs =>
  simp only[bX]at h
  cases hvk:bd st ks ep with
  |false=>simp[hvk]at h
  |true =>
   rw[hvk]at h
   simp only[cond_true]at h
   split at h
   ·rename_i r j n0 i sz off
    split at h
    ·rename_i p' E' e' xs' hg
     cases hb:!Nat.beq r TMP&&!Nat.beq r EPO&&Nat.beq sz e'.cells with
     |false=>simp[hb]at h
     |true =>
      rw[hb]at h
      simp only[cond_true]at h
      have hrT:TMP≠r:=fun e=>by subst e;simp at hb
      split at h
      ·split at h
       ·simp only[Option.some.injEq,Prod.mk.injEq]at h
        obtain⟨rfl,rfl⟩:=h
        rw[aM,aG hrT,aM,a9]
        rfl
       ·cases h
      ·cases h
    ·cases h
   ·cases h
 |_=>simp[bX]at h
theorem tU {E:TypeId}{e:Ty}{y:Leaf}(hy:∀ q∈av [y],st' q=st q):fa st' E e y=fa st E e y:=by
 unfold fa
 rw[bW hy,hX hy,fV hy]
theorem tV {E:TypeId}{e:Ty}{y:Leaf}{t:ch (List e.den)}(h:fa st E e y=some t):(∀ z∈t.frz,z.1∈av [y])∧∀ z∈t.kill,z.1∈av [y]:=by
 unfold fa at h
 cases hf:e.flat with
 |true =>
  rw[hf]at h
  simp only[cond_true,Option.map_eq_some_iff]at h
  obtain⟨_,_,rfl⟩:=h
  exact⟨by simp,by simp⟩
 |false =>
  rw[hf]at h
  simp only[cond_false]at h
  cases hs:decide (e.sh=e) with
  |true =>
   rw[hs]at h
   simp only[cond_true,Option.map_eq_some_iff]at h
   obtain⟨_,_,rfl⟩:=h
   exact⟨fun z hz=>dQ hz,by simp⟩
  |false =>
   rw[hs]at h
   simp only[cond_false,Option.map_eq_some_iff]at h
   obtain⟨t',ht,rfl⟩:=h
   exact gS ht
theorem j7 {U0:Upd}{d:Nat}{E:TypeId}{e:Ty}{bytes:Nat}{p:Bool}{xs:List e.den}{ks:List (Nat×Nat)}{y:Leaf}(hks:∀ z∈ks,st' z.1=st z.1)(hy:∀ q∈av [y],st' q=st q)(hd:st' d=st d) :
  dw st' (ab U0 st') U0 d E e bytes p xs ks y κ=dw st (ab U0 st) U0 d E e bytes p xs ks y κ:=by
 unfold dw
 have h0:∀ q,st' q=st q→ab U0 st' q=ab U0 st q:=fun q h=>bb h U0
 rw[tU (st:=ab U0 st) (st':=ab U0 st') (fun q hq=>h0 q (hy q hq))]
 split
 ·rename_i t ht
  obtain⟨p1,p2⟩:=tV ht
  have e1:aC (ab U0 st') t.frz=aC (ab U0 st) t.frz:=jd (fun z hz=>h0 _ (hy _ (p1 z hz)))
  have e2:∀ U:Upd,aK (ab U (ab U0 st')) (t.kill++ks)=aK (ab U (ab U0 st)) (t.kill++ks):=fun U=>gn (fun z hz=>bb (h0 _ ((List.mem_append.1 hz).elim (fun hz=>hy _ (p2 z hz)) (hks z))) U)
  simp only[e1,e2,sW hd]
 ·rfl
theorem tW {U0:Upd}{d:Nat}{E:TypeId}{e:Ty}{bytes:Nat}{x y:Leaf}(hx:∀ q∈av [x],st' q=st q)(hy:∀ q∈av [y],st' q=st q)(hd:st' d=st d):dO st' U0 d E e bytes x y κ=dO st U0 d E e bytes x y κ:=by
 unfold dO
 cases x with
 |al r j v =>
  have hr:st' r=st r:=hx r (by simp[av])
  simp only
  rw[bW (st:=ab U0 st) (st':=ab U0 st') (l:=.al r j v) (fun q hq=>bb (hx q hq) U0)]
  split
  ·rw[j7 (fun z hz=>by simp at hz;subst hz;exact hr) hy hd]
  ·rfl
 |nil=>exact j7 (by simp) hy hd
 |_=>rfl
theorem tX {d:Nat}{E:TypeId}{e:Ty}{bytes:Nat}{x y:Leaf}(hT:st' TMP=st TMP)(hx:∀ q∈av [x],st' q=st q)(hy:∀ q∈av [y],st' q=st q)(hd:st' d=st d):gu st' d E e bytes x y κ=gu st d E e bytes x y κ:=by
 unfold gu
 rw[tW hx hy hd,fZ,fZ]
 cases hn:ic x with
 |false=>rfl
 |true =>
  simp only[cond_true]
  have hE:st' EPO=st EPO:=by
   cases x with
   |nal p ks ep loc E e xs=>exact hx EPO (by rw[gm];exact List.mem_cons_self ..)
   |_=>simp[ic]at hn
  rw[oi hT hE hx]
  cases hu:bX st x with
  |none=>rfl
  |some u =>
   obtain⟨n,e1,_⟩:=mQ (U:=u.1) (l':=u.2) hu
   simp only[Option.bind_some]
   rw[e1]
   unfold dO
   simp only
   have e2:∀ q,q=TMP→ab u.1 st' q=ab u.1 st q:=fun q hq=>by rw[hq];exact bb hT u.1
   rw[bW (st:=ab u.1 st) (st':=ab u.1 st') (l:=.al TMP 0 n) (fun q hq=>e2 q (by simpa[av]using hq))]
   split
   ·rw[j7 (fun z hz=>by simp at hz;subst hz;exact hT) hy hd]
   ·rfl
structure ea (st st':St) (ls:List Leaf):Prop where
 d1:∀ q∈ay ls,st' q=st q
 d2:∀ r∈ay ls,∀ q∈ay (st r).ls,st' q=st q
 d3:∀ r∈ay ls,∀ r2∈ay (st r).ls,∀ q∈ay (st r2).ls,st' q=st q
theorem jv (p:Bool):∀ (a:Ty) (x:a.den),ay (cg p a x)=[]
 |.int _,_=>rfl
 |.bool,_=>rfl
 |.str,_=>rfl
 |.unit,_=>rfl
 |.hdr,_=>rfl
 |.pair a b,x=>by simp[cg,j5,jv p a,jv p b]
 |.list _ _ _,_=>rfl
theorem pt {l:Leaf}(h:∀ q∈ay [l],st' q=st q):target st' l=target st l:=by
 unfold target
 cases l with
 |bp b off =>
  have hb:=h b (by simp[ay])
  cases off with
  |zero=>simp only[hb]
  |succ n=>rfl
 |rp p a x off=>cases off <;> rfl
 |_=>rfl
theorem j8 {l:Leaf}{ls:List Leaf}(h:target st l=some ls):∀ q∈ay ls,q∈ay [l]∨∃ r∈ay [l],q∈ay (st r).ls:=by
 unfold target at h
 split at h
 ·rename_i b
  cases hb:decide ((st b).sh=.agg) with
  |false=>simp[hb]at h
  |true =>
   simp only[hb,cond_true,Option.some.injEq]at h
   subst h
   intro q hq
   rcases lU _ _ _ _ _ hq with rfl|hq
   ·exact .inl (by simp[ay])
   ·exact .inr ⟨b,by simp[ay],hq⟩
 ·simp only[Option.some.injEq]at h
  subst h
  intro q hq
  rw[jv]at hq
  simp at hq
 ·simp only[Option.some.injEq]at h
  subst h
  intro q hq
  simp[ay]at hq
 ·cases h
theorem gT {x:aF×List Leaf}{q:Nat}(h:q∈ay [bY x]):q∈ay x.2:=by
 unfold bY at h
 split at h
 ·exact h
 ·simp[ay]at h
theorem ea.target {l:Leaf}{ls:List Leaf}(h:ea st st' [l])(ht:Go.Proofs.YthgnfidnmnkeaaaGreatEv.target st l=some ls):(∀ q∈ay ls,st' q=st q)∧∀ r∈ay ls,∀ q∈ay (st r).ls,st' q=st q:=by
 constructor
 ·intro q hq
  rcases j8 ht q hq with h1|⟨r,h1,h2⟩
  ·exact h.d1 q h1
  ·exact h.d2 r h1 q h2
 ·intro r hr q hq
  rcases j8 ht r hr with h1|⟨r',h1,h2⟩
  ·exact h.d2 r h1 q hq
  ·exact h.d3 r' h1 r h2 q hq
theorem ea.one {x:aF×List Leaf}(h:ea st st' x.2):ea st st' [bY x] :=
 ⟨fun q hq=>h.d1 q (gT hq),fun r hr=>h.d2 r (gT hr),fun r hr=>h.d3 r (gT hr)⟩
def lW {α:Type}(st st':St)(g:Got α):Prop:=(∀ z∈g.frz,st' z.1=st z.1)∧(∀ z∈g.kill,st' z.1=st z.1)
theorem lX {c:Bool×Ty}{l:Leaf}(h1:ea st st' [l]):eJ st' c l=eJ st c l∧∀ g,eJ st c l=some g→lW st st' g:=by
 unfold eJ
 rw[pt h1.d1]
 cases ht:target st l with
 |none=>cases c.1 <;> exact⟨rfl,by simp⟩
 |some ls =>
  have h2:=h1.target ht
  cases hc:c.1 with
  |false =>
   have h3:∀ q∈av ls,st' q=st q:=fun q hq=>h2.1 q (eU hq)
   simp only[cond_false,dY h3,hX h3,true_and]
   intro g hg
   simp only[Option.map_eq_some_iff]at hg
   obtain⟨_,_,rfl⟩:=hg
   exact⟨j6 h3,by simp[Got.ofRd]⟩
  |true =>
   simp only[cond_true]
   match ls,h2,ht with
   |[],_,_=>exact⟨rfl,by simp⟩
   |_::_::_,_,_=>exact⟨rfl,by simp⟩
   |[l'],h2,ht =>
    simp only[pt h2.1]
    cases ht':target st l' with
    |none=>exact⟨rfl,by simp⟩
    |some ls' =>
     have h3:∀ q∈av ls',st' q=st q:=by
      intro q hq
      rcases j8 ht' q (eU hq) with h4|⟨r,h4,h5⟩
      ·exact h2.1 q h4
      ·exact h2.2 r h4 q h5
     simp only[dY h3,hX h3,true_and]
     intro g hg
     simp only[Option.map_eq_some_iff]at hg
     obtain⟨_,_,rfl⟩:=hg
     exact⟨j6 h3,by simp[Got.ofRd]⟩
theorem kV:∀ (cs:List (Bool×Ty)) (ls:List Leaf),(∀ l∈ls,ea st st' [l])→b8 st' cs ls=b8 st cs ls∧∀ g,b8 st cs ls=some g→lW st st' g
 |[],[],_=>⟨rfl,fun g hg=>by simp only[b8,Option.some.injEq]at hg;subst hg;exact⟨by simp,by simp⟩⟩
 |[],_::_,_=>⟨rfl,fun g hg=>by simp[b8]at hg⟩
 |_::_,[],_=>⟨rfl,fun g hg=>by simp[b8]at hg⟩
 |c::cs,l::ls,h=>by
  obtain⟨h1,h2⟩:=lX (c:=c) (h l (List.mem_cons_self ..))
  obtain⟨h3,h4⟩:=kV cs ls (fun y hy=>h y (List.mem_cons_of_mem _ hy))
  simp only[b8,h1,h3,true_and]
  intro g hg
  split at hg
  ·rename_i g1 hg1
   split at hg
   ·rename_i g2 hg2
    simp only[Option.some.injEq]at hg
    subst hg
    exact⟨fun z hz=>(List.mem_append.1 hz).elim ((h2 g1 hg1).1 z) ((h4 g2 hg2).1 z),by simp⟩
   ·cases hg
  ·cases hg
theorem mR {c:Nat}{q:Nat}:∀ {ls:List Leaf} {c:Nat},q∈av (aP ls c .nil)→q∈av ls
 |[],_,h=>h
 |l::ls,0,h=>by
  rw[show aP (l::ls) 0 .nil=.nil::ls from rfl,aJ,List.mem_append]at h
  rw[aJ,List.mem_append]
  rcases h with h|h
  ·simp[av]at h
  ·exact .inr h
 |l::ls,c+1,h=>by
  rw[show aP (l::ls) (c+1) .nil=l::aP ls c .nil from rfl,aJ,List.mem_append]at h
  rw[aJ,List.mem_append]
  exact h.imp id (mR (c:=c))
theorem nD {caps:List Nat}{f:FuncId}(h1:ea st st' [.clo f caps]):∀ l∈caps.map (fun b=>Leaf.bp b 0),ea st st' [l]:=by
 intro l hl
 obtain⟨b,hb,rfl⟩:=List.mem_map.1 hl
 have hcap:b∈ay [Leaf.clo f caps]:=by simp[ay,hb]
 have hbb:∀ r∈ay [Leaf.bp b 0],r=b:=fun r hr=>by simpa[ay]using hr
 exact⟨fun q hq=>h1.d1 q (by rw[hbb q hq];exact hcap),fun r hr=>h1.d2 r (by rw[hbb r hr];exact hcap),fun r hr=>h1.d3 r (by rw[hbb r hr];exact hcap)⟩
theorem lY {caps:List (Bool×Bool×(a:Ty)×a.den)}:∀ l∈caps.map eb,ea st st' [l]:=by
 intro l hl
 obtain⟨c,hc,rfl⟩:=List.mem_map.1 hl
 have:∀ q,q∉ay [eb c]:=by
  intro q hq
  unfold eb at hq
  cases hcc:c.2.1 <;> rw[hcc]at hq <;> simp[ay]at hq
 exact⟨fun q hq=>absurd hq (this q),fun q hq=>absurd hq (this q),fun q hq=>absurd hq (this q)⟩
theorem dN {pk:PK}{x:aF×List Leaf}(h:ea st st' x.2):a6 st' pk x=a6 st pk x∧∀ g,a6 st pk x=some g→lW st st' g:=by
 have hx:∀ q∈av x.2,st' q=st q:=fun q hq=>h.d1 q (eU hq)
 have h1:=h.one
 have taking:∀ {b:Bool} {a:Ty} {g:Got a.den},(bif b then (bT st a x.2).map (fun t=>(⟨t.p,t.val,t.frz,t.kill,[],[]⟩:Got a.den)) else none)=some g→lW st st' g:=by
  intro b a g hg
  cases b with
  |false=>simp at hg
  |true =>
   simp only[cond_true,Option.map_eq_some_iff]at hg
   obtain⟨t,ht,rfl⟩:=hg
   obtain⟨p1,p2⟩:=gS ht
   exact⟨fun z hz=>hx _ (p1 z hz),fun z hz=>hx _ (p2 z hz)⟩
 cases pk with
 |rd a =>
  simp only[a6,dY hx,hX hx,true_and]
  intro g hg
  cases hb:decide (x.1=a7 a.isAgg) with
  |false=>simp[hb]at hg
  |true =>
   simp only[hb,cond_true,Option.map_eq_some_iff]at hg
   obtain⟨y,_,rfl⟩:=hg
   exact⟨j6 hx,by simp[Got.ofRd]⟩
 |own a =>
  simp only[a6,fV hx,true_and]
  exact fun g hg=>taking hg
 |io a =>
  simp only[a6,fV hx,true_and]
  exact fun g hg=>taking hg
 |rref a=>exact lX (c:=(false,a)) h1
 |rref2 a=>exact lX (c:=(true,a)) h1
 |iop a =>
  simp only[a6]
  split
  ·rename_i b hlf
   rw[hlf]at h1
   have hb:=h1.d1 b (by simp[ay])
   have h3:∀ q∈av (br b (st b).ver 0 (st b).ls),st' q=st q:=by
    intro q hq
    rcases lT _ _ _ _ _ hq with rfl|hq
    ·exact hb
    ·exact h1.d2 b (by simp[ay]) q (eU hq)
   simp only[hb,fV h3,true_and]
   intro g hg
   cases hbb:decide ((st b).sh=.agg) with
   |false=>simp[hbb]at hg
   |true =>
    simp only[hbb,cond_true,Option.map_eq_some_iff]at hg
    obtain⟨t,ht,rfl⟩:=hg
    obtain⟨p1,p2⟩:=gS ht
    exact⟨fun z hz=>h3 _ (p1 z hz),fun z hz=>h3 _ (p2 z hz)⟩
  ·exact⟨rfl,by simp⟩
 |fn As B =>
  simp only[a6,true_and]
  intro g hg
  split at hg
  ·split at hg
   ·simp only[Option.some.injEq]at hg
    subst hg
    exact⟨by simp,by simp⟩
   ·cases hg
  ·cases hg
 |clo f cs =>
  simp only[a6]
  split
  ·rename_i f' caps hlf
   rw[hlf]at h1
   have:=kV cs _ (nD h1)
   rw[this.1]
   refine⟨rfl,fun g hg=>?_⟩
   cases hb:Nat.beq f' f with
   |false=>simp[hb]at hg
   |true=>rw[hb]at hg;exact this.2 g hg
  ·rename_i f' caps hlf
   have:=kV (st:=st) (st':=st') cs _ (lY (caps:=caps))
   rw[this.1]
   refine⟨rfl,fun g hg=>?_⟩
   cases hb:Nat.beq f' f with
   |false=>simp[hb]at hg
   |true=>rw[hb]at hg;exact this.2 g hg
  ·exact⟨rfl,by simp⟩
 |hol a c off =>
  simp only[a6]
  have hset:∀ q∈av (aP x.2 c .nil),st' q=st q:=fun q hq=>hx q (mR (c:=c) hq)
  rw[fV hset]
  cases hb:decide (x.1=a7 a.isAgg) with
  |false=>exact⟨rfl,by simp⟩
  |true =>
   simp only[cond_true]
   split
   ·rename_i r j v hal
    have hlc:x.2[c]?=some (.al r j v):=by
     rw[List.getD_eq_getElem?_getD]at hal
     cases hq:x.2[c]? with
     |none=>rw[hq]at hal;simp at hal
     |some l0=>rw[hq]at hal;simp at hal;rw[hal]
    have hr:=fun q hq=>hx q (oR hlc q hq)
    rw[bW hr]
    refine⟨rfl,fun g hg=>?_⟩
    split at hg
    ·rename_i p i o' E e xs _
     cases hbo:Nat.beq o' off with
     |false=>simp[hbo]at hg
     |true =>
      rw[hbo]at hg
      simp only[cond_true]at hg
      split at hg
      ·rename_i t ht
       split at hg
       ·simp only[Option.some.injEq]at hg
        subst hg
        obtain⟨p1,p2⟩:=gS ht
        refine⟨fun z hz=>hset _ (p1 z hz),fun z hz=>?_⟩
        rcases List.mem_cons.1 hz with rfl|hz
        ·exact hr r (by simp[av])
        ·exact hset _ (p2 z hz)
       ·cases hg
      ·cases hg
    ·cases hg
   ·exact⟨rfl,by simp⟩
theorem jx {ga ga':(pk:PK)→aF×List Leaf→Option (Got pk.den)}:∀ (ps:List PK) (xs:List (aF×List Leaf)),
  (∀ x∈xs,∀ pk,ga' pk x=ga pk x∧∀ g,ga pk x=some g→lW st st' g) →
  aX ga' ps xs=aX ga ps xs∧∀ g,aX ga ps xs=some g→lW st st' g
 |[],[],_=>⟨rfl,fun g hg=>by simp only[aX,Option.some.injEq]at hg;subst hg;exact⟨by simp,by simp⟩⟩
 |[],_::_,_=>⟨rfl,fun g hg=>by simp[aX]at hg⟩
 |_::_,[],_=>⟨rfl,fun g hg=>by simp[aX]at hg⟩
 |p::ps,x::xs,h=>by
  obtain⟨h1,h2⟩:=h x (List.mem_cons_self ..) p
  obtain⟨h3,h4⟩:=jx ps xs (fun y hy=>h y (List.mem_cons_of_mem _ hy))
  simp only[aX,h1,h3,true_and]
  intro g hg
  split at hg
  ·rename_i g1 hg1
   split at hg
   ·rename_i g2 hg2
    simp only[Option.some.injEq]at hg
    subst hg
    exact⟨fun z hz=>(List.mem_append.1 hz).elim ((h2 g1 hg1).1 z) ((h4 g2 hg2).1 z),fun z hz=>(List.mem_append.1 hz).elim ((h2 g1 hg1).2 z) ((h4 g2 hg2).2 z)⟩
   ·cases hg
  ·cases hg
theorem rz {As:List Ty}{B:Ty}{f:FuncId}{ls:List Leaf}(h:∀ l∈ls,ea st st' [l]):jA Γ st' As B f ls=jA Γ st As B f ls∧∀ g,jA Γ st As B f ls=some g→lW st st' g:=by
 have hargs:=fun (q:List PK)=>jx (st:=st) (st':=st') (ga:=a6 st) (ga':=a6 st') q (ls.map fun l=>(aF.one,[l])) (fun y hy pk=>by
  obtain⟨l,hl,rfl⟩:=List.mem_map.1 hy
  exact dN (h l hl))
 unfold jA
 split
 ·rename_i c hc
  unfold pU
  simp only[su,(hargs _).1,true_and]
  intro g hg
  split at hg
  ·cases hb:(c.ps.drop As.length).all PK.reads&&B.flat&&c.fresh with
   |false=>simp[hb]at hg
   |true =>
    simp only[hb,cond_true]at hg
    split at hg
    ·rename_i g0 hg0
     simp only[Option.some.injEq]at hg
     subst hg
     exact⟨((hargs _).2 g0 hg0).1,by simp⟩
    ·cases hg
  ·cases hg
 ·exact⟨rfl,by simp⟩
theorem tY {pk:PK}{x:aF×List Leaf}(h:ea st st' x.2):bQ Γ st' pk x=bQ Γ st pk x∧∀ g,bQ Γ st pk x=some g→lW st st' g:=by
 cases pk with
 |fn As B =>
  simp only[bQ]
  split
  ·rename_i fc hfc
   have hx:(∃ caps,bY x=.clo fc.1 caps∧fc.2=caps.map fun b=>Leaf.bp b 0)∨∃ caps,bY x=.clr fc.1 caps∧fc.2=caps.map eb:=by
    generalize bY x=l at hfc
    cases l <;> simp only[te,Option.some.injEq,reduceCtorEq]at hfc
    ·subst hfc;exact .inl ⟨_,rfl,rfl⟩
    ·subst hfc;exact .inr ⟨_,rfl,rfl⟩
   have h1:=h.one
   rcases hx with ⟨caps,hx,he⟩|⟨caps,hx,he⟩
   ·rw[hx]at h1
    rw[he]
    exact rz (nD h1)
   ·rw[he]
    exact rz lY
  ·exact dN h
 |rd a=>exact dN (pk:=.rd a) h
 |own a=>exact dN (pk:=.own a) h
 |io a=>exact dN (pk:=.io a) h
 |rref a=>exact dN (pk:=.rref a) h
 |rref2 a=>exact dN (pk:=.rref2 a) h
 |iop a=>exact dN (pk:=.iop a) h
 |clo f cs=>exact dN (pk:=.clo f cs) h
 |hol a c off=>exact dN (pk:=.hol a c off) h
theorem rA:∀ (xl ls:List Leaf),st' EPO=st EPO→(∀ q∈ay xl,st' q=st q)→bO st' xl ls=bO st xl ls
 |[],_,_,_=>by simp[bO]
 |x::xl,[],_,_=>by cases x <;> simp[bO]
 |x::xl,l::ls,hE,h=>by
  have ih:=rA xl ls hE (fun q hq=>h q (by rw[cY];exact List.mem_append_right _ hq))
  cases x with
  |al r j v =>
   have hr:st' r=st r:=h r (by simp[ay])
   simp only[bO,ih,bb hr,bb hE]
  |_=>simp only[bO,ih]
theorem oj {p:Bool}:∀ (ps:List PK) (xs:List (aF×List Leaf)) (y:ah ps),st' EPO=st EPO→(∀ x∈xs,∀ q∈ay x.2,st' q=st q)→aD st' p ps xs y=aD st p ps xs y
 |[],_,_,_,_=>by simp[aD]
 |pk::ps,[],y,_,h=>by cases pk <;> simp[aD]
 |pk::ps,x::xs,y,hE,h=>by
  have ih:=fun (y:ah ps)=>oj (p:=p) ps xs y hE (fun z hz=>h z (List.mem_cons_of_mem _ hz))
  have hx:=h x (List.mem_cons_self ..)
  cases pk with
  |io a =>
   simp only[aD,ih]
   rw[rA x.2 _ (bb hE _) (fun q hq=>bb (hx q hq) _)]
  |iop a =>
   simp only[aD,ih]
   have hl:∀ q∈ay [bY x],st' q=st q:=fun q hq=>hx q (gT hq)
   congr 1
   split
   ·rename_i b v hlf
    rw[hlf]at hl
    rw[bb (hl b (by simp[ay]))]
   ·rfl
  |_=>exact ih _
theorem ol {n q:Nat}:∀ {ls:List Leaf} {k:Nat},q∈ay (aP ls k (.al TMP 0 n))→q∈ay ls∨q=TMP
 |[],_,h=>.inl h
 |l::ls,0,h=>by
  rw[show aP (l::ls) 0 (.al TMP 0 n)=.al TMP 0 n::ls from rfl,cY,List.mem_append]at h
  rw[cY,List.mem_append]
  rcases h with h|h
  ·simp[ay]at h;exact .inr h
  ·exact .inl (.inr h)
 |l::ls,k+1,h=>by
  rw[show aP (l::ls) (k+1) (.al TMP 0 n)=l::aP ls k (.al TMP 0 n) from rfl,cY,List.mem_append]at h
  rw[cY,List.mem_append]
  rcases h with h|h
  ·exact .inl (.inl h)
  ·exact (ol h).imp .inr id
theorem nE {U:Upd}{ls0 ls:List Leaf}(hT:st' TMP=st TMP)(hsub:∀ q,q≠TMP→∀ z∈ay (ab U st q).ls,z∈ay (st q).ls)(htmp:ay (ab U st TMP).ls=[])(hx:ea st st' ls0)(hin:∀ q∈ay ls,q∈ay ls0∨q=TMP) :
  ea (ab U st) (ab U st') ls:=by
 have hne:∀ r z,z∈ay (ab U st r).ls→r≠TMP:=fun r z hz e=>by subst e;rw[htmp]at hz;simp at hz
 refine⟨fun q hq=>?_,fun r hr q hq=>?_,fun r hr r2 hr2 q hq=>?_⟩
 ·rcases hin q hq with h|h
  ·exact bb (hx.d1 q h) U
  ·subst h;exact bb hT U
 ·have h1:=hne r q hq
  exact bb (hx.d2 r ((hin r hr).resolve_right h1) q (hsub r h1 q hq)) U
 ·have h1:=hne r r2 hr2
  have h2:=hne r2 q hq
  exact bb (hx.d3 r ((hin r hr).resolve_right h1) r2 (hsub r h1 r2 hr2) q (hsub r2 h2 q hq)) U
theorem mS (hT:st' TMP=st TMP)(hE:st' EPO=st EPO):∀ (ps:List PK) (xs:List (aF×List Leaf)),(∀ x∈xs,ea st st' x.2)→cB st' ps xs=cB st ps xs ∧
  ∀ (U:Upd) (ys:List (aF×List Leaf)) (b:Option (Bool×Nat×Nat)),cB st ps xs=some (U,ys,b)→(∀ y∈ys,ea (ab U st) (ab U st') y.2)∧(∀ f r j,b=some (f,r,j)→st' r=st r)∧∀ ls,ea st st' ls→ea (ab U st) (ab U st') ls
 |[],xs,h=>⟨rfl,fun U ys b hn=>by
   simp only[cB,Option.some.injEq,Prod.mk.injEq]at hn
   obtain⟨rfl,rfl,rfl⟩:=hn
   exact⟨h,(fun _ _ _ h=>by cases h),fun _ h=>h⟩⟩
 |_::_,[],h=>⟨rfl,fun U ys b hn=>by
   simp only[cB,Option.some.injEq,Prod.mk.injEq]at hn
   obtain⟨rfl,rfl,rfl⟩:=hn
   exact⟨h,(fun _ _ _ h=>by cases h),fun _ h=>h⟩⟩
 |p::ps,x::xs,h=>by
  have hx:=h x (List.mem_cons_self ..)
  obtain⟨i1,i2⟩:=mS hT hE ps xs (fun y hy=>h y (List.mem_cons_of_mem _ hy))
  simp only[cB]
  cases hk:p.nest x.2 with
  |none =>
   simp only[i1,true_and]
   intro U ys b hn
   simp only[Option.map_eq_some_iff]at hn
   obtain⟨u,hu,hn⟩:=hn
   simp only[Prod.mk.injEq]at hn
   obtain⟨rfl,rfl,rfl⟩:=hn
   obtain⟨j1,j2,j3⟩:=i2 u.1 u.2.1 u.2.2 hu
   refine⟨fun y hy=>?_,j2,j3⟩
   rcases List.mem_cons.1 hy with rfl|hy
   ·exact j3 _ hx
   ·exact j1 y hy
  |some k =>
   obtain⟨l,hlk,hnal⟩:=ph hk
   have hg:x.2.getD k .dead=l:=by rw[List.getD_eq_getElem?_getD,hlk];rfl
   have hal:∀ q∈av [l],st' q=st q:=fun q hq=>hx.d1 q (eU (oR hlk q hq))
   simp only[hg,oi hT hE hal,true_and]
   intro U ys b hn
   simp only[Option.map_eq_some_iff]at hn
   obtain⟨u,hu,hn⟩:=hn
   simp only[Prod.mk.injEq]at hn
   obtain⟨rfl,rfl,rfl⟩:=hn
   obtain⟨n,e1,hsub⟩:=mQ (U:=u.1) (l':=u.2) hu
   have htmp:=sq (U:=u.1) (l':=u.2) hu
   refine⟨fun y hy=>?_,fun f r j hb=>?_,fun ls hls=>nE hT hsub htmp hls (fun q hq=>.inl hq)⟩
   ·rcases List.mem_cons.1 hy with rfl|hy
    ·refine nE hT hsub htmp hx fun q hq=>?_
     have hq:q∈ay (aP x.2 k u.2):=hq
     rw[e1]at hq
     exact ol hq
    ·exact nE hT hsub htmp (h y (List.mem_cons_of_mem _ hy)) (fun q hq=>.inl hq)
   ·simp only[Option.some.injEq,Prod.mk.injEq]at hb
    have hr:r=(iY l).1:=by rw[hb.2]
    rw[hr]
    refine hal _ ?_
    cases l with
    |nal p ks ep loc E e xs =>
     cases ks with
     |nil =>
      exfalso
      simp only[bX]at hu
      cases hv:bd st [] ep <;> simp[hv]at hu
     |cons k ks=>rw[gm];simp[iY]
    |_=>simp[ic]at hnal
theorem we {b:Option (Bool×Nat×Nat)}{U:Upd}(hT:st' TMP=st TMP)(hE:st' EPO=st EPO)(hb:∀ f r j,b=some (f,r,j)→st' r=st r):iN st' b U κ=iN st b U κ:=by
 unfold iN
 split
 ·rename_i r j
  rw[bb (hb true r j rfl),bb hT,bb hE]
 ·rfl
theorem rB {d:Nat}{f:FuncId}{xs:List (aF×List Leaf)}(hT:st' TMP=st TMP)(hE:st' EPO=st EPO)(hx:∀ x∈xs,ea st st' x.2)(hd:st' d=st d)(hB:st' (B0+d)=st (B0+d)):ig Γ st' d f xs κ=ig Γ st d f xs κ:=by
 unfold ig
 split
 ·rename_i c hc
  obtain⟨n1,n2⟩:=mS hT hE c.ps xs hx
  rw[fJ,fJ,n1]
  cases hn:cB st c.ps xs with
  |none=>rfl
  |some u =>
   obtain⟨U0,ys,b⟩:=u
   obtain⟨m1,m2,_⟩:=n2 U0 ys b hn
   simp only[Option.bind_some]
   have hg:=jx (st:=ab U0 st) (st':=ab U0 st') (ga:=bQ Γ (ab U0 st)) (ga':=bQ Γ (ab U0 st')) c.ps ys (fun x hx' pk=>tY (m1 x hx'))
   simp only[mX,hg.1]
   split
   ·rename_i g hgg
    obtain⟨h1,h2⟩:=hg.2 g hgg
    have hbox:fN st' d c.rs=fN st d c.rs:=by
     unfold fN
     split
     ·rw[hB]
     ·rfl
    have hL:∀ q,ab U0 st' q=ab U0 st q→∀ U,ab (U++U0) st' q=ab (U++U0) st q:=fun q h U=>by rw[bf,bf];exact bb h U
    have hfz:(bif c.fresh then [] else aC (ab U0 st') g.frz)=(bif c.fresh then [] else aC (ab U0 st) g.frz):=by rw[jd h1]
    have hk:∀ (U:Upd),aK (ab U (ab U0 st')) g.kill=aK (ab U (ab U0 st)) g.kill:=fun U=>gn (fun z hz=>bb (h2 z hz) U)
    have ho:∀ (U:Upd) (p:Bool) (y:ah c.ps),aD (ab (U++U0) st') p c.ps ys y=aD (ab (U++U0) st) p c.ps ys y:=fun U p y =>
     oj c.ps ys y (hL _ (bb hE U0) U) (fun x hx' q hq=>hL _ ((m1 x hx').d1 q hq) U)
    have hver:∀ (U:Upd),(g.frz.map fun k=>(k.1,k.2,(ab (U++U0) st' k.1).ver))=g.frz.map fun k=>(k.1,k.2,(ab (U++U0) st k.1).ver):=fun U=>List.map_congr_left fun z hz=>by rw[hL _ (h1 z hz) U]
    have hd':∀ U,ab U st' d=ab U st d:=fun U=>bb hd U
    have hB':∀ U,ab U st' (B0+d)=ab U st (B0+d):=fun U=>bb hB U
    have hE':∀ U,ab U st' EPO=ab U st EPO:=fun U=>bb hE U
    simp only[hbox,hfz,hk,ho,hd',hB',hE',← List.append_assoc,hver,we hT hE m2]
   ·rfl
 ·rfl
theorem pu:∀ (As:List Ty) (xs:List (aF×List Leaf)),(∀ x∈xs,∀ q∈av x.2,st' q=st q)→gI st' As xs=gI st As xs
 |[],[],_=>rfl
 |[],_::_,_=>rfl
 |_::_,[],_=>rfl
 |a::As,x::xs,h=>by
  simp only[gI,dY (h x (List.mem_cons_self ..)),pu As xs (fun y hy=>h y (List.mem_cons_of_mem _ hy))]
theorem tZ {r j i off n:Nat}{p:Bool}{E:TypeId}{e:Ty}{xs:List e.den}{h:Option (Nat×Nat)}{ls:List Leaf}(hr:st' r=st r)(hE:st' EPO=st EPO)(hl:∀ q∈av ls,st' q=st q):fO st' r j i off n p E e xs h ls κ=fO st r j i off n p E e xs h ls κ:=by
 unfold fO
 congr 1
 funext old
 rw[nB e 0 old ls hl]
 split
 ·rename_i t ht
  obtain⟨p1,p2⟩:=nC e 0 old ls t ht
  have e1:aC st' t.frz=aC st t.frz:=jd (fun z hz=>hl _ (p1 z hz))
  have e2:∀ U:Upd,aK (ab U st') t.kill=aK (ab U st) t.kill:=fun U=>gn (fun z hz=>bb (hl _ (p2 z hz)) U)
  simp only[e1,e2,hr,bb hE]
 ·rfl
end
end Go.Proofs.YthgnfidnmnkeaaaGreatEv
namespace Go.Proofs.YthgnfidnmnkeaaaGreatEv
open Go Go.RowKit
section
variable {P:Program} {V:Env} {Γ:List Ctr} {T:TypeId→TI} {st st':St} {o:Oper} {R:Type} {κ:Upd→Option R} {r:R}
theorem cZ {ts:List Nat}(h:∀ q∈ts++ts.flatMap (fun t=>av (st t).ls),st' q=st q){x:Operand}(hx:∀ t,x=.tmp t→t∈ts):(∀ t,x=.tmp t→st' t=st t)∧∀ q∈av (ar st x).2,st' q=st q:=by
 refine⟨fun t ht=>h t (List.mem_append_left _ (hx t ht)),fun q hq=>?_⟩
 obtain⟨t,ht,hq⟩:=po hq
 rcases hq with rfl|hq
 ·exact h q (List.mem_append_left _ (hx q ht))
 ·exact h q (List.mem_append_right _ (List.mem_flatMap.2 ⟨t,hx t ht,hq⟩))
theorem lZ {ts:List Nat}(h:∀ q∈ts++ts.flatMap (fun t=>ay (st t).ls),st' q=st q){x:Operand}(hx:∀ t,x=.tmp t→t∈ts):(∀ t,x=.tmp t→st' t=st t)∧∀ q∈ay (ar st x).2,st' q=st q:=by
 refine⟨fun t ht=>h t (List.mem_append_left _ (hx t ht)),fun q hq=>?_⟩
 obtain⟨t,ht,hq⟩:=pp hq
 rcases hq with rfl|hq
 ·exact h q (List.mem_append_left _ (hx q ht))
 ·exact h q (List.mem_append_right _ (List.mem_flatMap.2 ⟨t,hx t ht,hq⟩))
theorem om {ts:List Nat}(h:∀ q∈jC st ts,st' q=st q){x:Operand}(hx:∀ t,x=.tmp t→t∈ts):ea st st' (ar st x).2:=by
 have hts:∀ q,q∈ts→st' q=st q:=fun q hq=>h q (by simp[jC];exact .inl hq)
 have ha:∀ q,q∈ts.flatMap (fun t=>ay (st t).ls)→st' q=st q:=fun q hq=>h q (by
  unfold jC
  exact List.mem_append_left _ (List.mem_append_left _ (List.mem_append_right _ hq)))
 have hb:∀ q,q∈(ts.flatMap (fun t=>ay (st t).ls)).flatMap (fun t=>ay (st t).ls)→st' q=st q:=fun q hq=>h q (by
  unfold jC
  exact List.mem_append_left _ (List.mem_append_right _ hq))
 have hc:∀ q,q∈((ts.flatMap (fun t=>ay (st t).ls)).flatMap (fun t=>ay (st t).ls)).flatMap (fun t=>ay (st t).ls)→st' q=st q:=fun q hq=>h q (by
  unfold jC
  exact List.mem_append_right _ hq)
 have l1:∀ r∈ay (ar st x).2,r∈ts∨r∈ts.flatMap (fun t=>ay (st t).ls):=by
  intro r hr
  obtain⟨t,ht,hq⟩:=pp hr
  rcases hq with rfl|hq
  ·exact .inl (hx r ht)
  ·exact .inr (List.mem_flatMap.2 ⟨t,hx t ht,hq⟩)
 have l2:∀ r∈ay (ar st x).2,∀ q∈ay (st r).ls,q∈ts.flatMap (fun t=>ay (st t).ls)∨q∈(ts.flatMap (fun t=>ay (st t).ls)).flatMap (fun t=>ay (st t).ls):=by
  intro r hr q hq
  rcases l1 r hr with h1|h1
  ·exact .inl (List.mem_flatMap.2 ⟨r,h1,hq⟩)
  ·exact .inr (List.mem_flatMap.2 ⟨r,h1,hq⟩)
 refine⟨fun q hq=>(l1 q hq).elim (hts q) (ha q),fun r hr q hq=>(l2 r hr q hq).elim (ha q) (hb q),fun r hr r2 hr2 q hq=>?_⟩
 rcases l2 r hr r2 hr2 with h1|h1
 ·exact hb q (List.mem_flatMap.2 ⟨r2,h1,hq⟩)
 ·exact hc q (List.mem_flatMap.2 ⟨r2,h1,hq⟩)
theorem aZ {xs:Array Operand}{x:Operand}(h:x∈xs):∀ t,x=.tmp t→t∈gv xs.toList:=fun t e=>pn (by rw[← e];simpa using h)
theorem op_fr (h:∀ q∈eL st o,st' q=st q)(hm:∀ x,o.op≠.move x)(hi:∀ t x i,o.op≠.indexAddr t x i):∀ q∈bZ st o.op,st' q=st q:=fun q hq=>h q (by
 unfold eL
 refine List.mem_append_left _ ?_
 cases hop:o.op with
 |move x=>exact absurd hop (hm x)
 |indexAddr t x i=>exact absurd hop (hi t x i)
 |_=>rw[hop]at hq;exact hq)
theorem wZ {α β:Type}{xs:List α}{n:Int}{K:Option β}:((idx xs n).bind fun _=>K)=if 0≤n∧n<xs.length then K else none:=by
 unfold idx
 by_cases h0:n<0
 ·rw[if_pos h0,if_neg (by omega)];rfl
 ·rw[if_neg h0]
  by_cases h1:n.toNat<xs.length
  ·rw[List.getElem?_eq_getElem h1,if_pos (by omega)];rfl
  ·rw[List.getElem?_eq_none (by omega),if_neg (by omega)];rfl
theorem xx (h:∀ q∈eL st o,st' q=st q)(hh:∀ q∈ek st o.op,bA (st' q)=bA (st q)):act Γ T o st' κ=act Γ T o st κ:=by
 have hop0:=op_fr h
 have hput:∀ (U:Upd) (d:Nat) (sh:aF) (ls:List Leaf),o.dst=some d→bP st' U d sh ls=bP st U d sh ls:=fun U d sh ls hd=>sW (rx hd h).1
 have hB:∀ d,o.dst=some d→st' (B0+d)=st (B0+d):=fun d hd=>(rx hd h).2
 have hw:∀ (sh:aF) (ls:List Leaf),wrU o st' κ sh ls=wrU o st κ sh ls:=by
  intro sh ls
  unfold wrU
  split
  ·rename_i d hd;rw[hput _ _ _ _ hd]
  ·rfl
 cases hop:o.op with
 |move x =>
  simp only[hop,ek]at hh
  have e:ar st' x=ar st x:=vf fun t ht=>hh t (aZ (by simp[Op.operands]) t ht)
  simp only[act,hop,e,hw]
 |assign x =>
  have hop':=hop0 (by simp[hop]) (by simp[hop])
  simp only[hop,bZ]at hop'
  have hx:=cZ hop' (x:=x) (aZ (by simp[Op.operands]))
  have e:ar st' x=ar st x:=dv hx.1
  simp only[act,hop,e,oT hx.2,nA hx.2,rr hx.2]
  split
  ·rename_i d hd;rw[hput _ _ _ _ hd]
  ·rfl
 |pick c x y =>
  have hop':=hop0 (by simp[hop]) (by simp[hop])
  simp only[hop,bZ]at hop'
  have e1:one st' c=one st c:=da fun t ht=>hop' t (aZ (by simp[Op.operands]) t ht)
  have e2:ar st' x=ar st x:=dv fun t ht=>hop' t (aZ (by simp[Op.operands]) t ht)
  have e3:ar st' y=ar st y:=dv fun t ht=>hop' t (aZ (by simp[Op.operands]) t ht)
  simp only[act,hop,e1,e2,e3,hw]
 |alloc t =>
  simp only[act,hop]
  split
  ·rename_i d hd;rw[hput _ _ _ _ hd,hB d hd]
  ·rfl
 |box t x =>
  have hop':=hop0 (by simp[hop]) (by simp[hop])
  simp only[hop,bZ]at hop'
  have hx:=cZ hop' (x:=x) (aZ (by simp[Op.operands]))
  have e:ar st' x=ar st x:=dv hx.1
  have hlent:qc st' x=qc st x:=by cases x <;> first|rfl|(simp only[qc];rw[hx.1 _ rfl])
  simp only[act,hop,e,oT hx.2,nA hx.2,rr hx.2,hlent]
  split
  ·rename_i d hd;simp only[hput _ _ _ _ hd,hB d hd,bb (hB d hd)]
  ·rfl
 |build t parts =>
  have hop':=hop0 (by simp[hop]) (by simp[hop])
  simp only[hop,bZ]at hop'
  have hb:∀ flds ls,eK st' flds parts.toList ls=eK st flds parts.toList ls:=fun flds ls=>oh _ _ (fun x hx t ht=>hop' t (aZ (by simp only[Op.operands,List.mem_toArray,List.mem_map];exact⟨x,hx,rfl⟩) t ht))
  simp only[act,hop,hw,hb]
 |buildSlice t n parts =>
  have hop':=hop0 (by simp[hop]) (by simp[hop])
  simp only[hop,bZ]at hop'
  have hx:∀ x∈parts.toList,(∀ t,x.2=.tmp t→st' t=st t)∧∀ q∈av (ar st x.2).2,st' q=st q:=fun x hx =>
   cZ hop' (aZ (by simp only[Op.operands,List.mem_toArray,List.mem_map];exact⟨x,hx,rfl⟩))
  simp only[act,hop]
  split
  ·rw[mO _ _ hx]
   split
   ·rename_i u hbe
    have hpl:=mP _ _ _ hbe
    have hst:∀ z,z∈u.frz∨z∈u.kill→st' z.1=st z.1:=fun z hz=>by
     obtain⟨x,hx1,hx2⟩:=hpl z hz
     exact (hx x hx1).2 _ hx2
    have e1:aC st' u.frz=aC st u.frz:=jd fun z hz=>hst z (.inl hz)
    have e2:∀ U:Upd,aK (ab U st') u.kill=aK (ab U st) u.kill:=fun U=>gn (fun z hz=>bb (hst z (.inr hz)) U)
    simp only[e1,e2]
    congr 1
    split
    ·rename_i d hd;rw[hput _ _ _ _ hd]
    ·rfl
   ·rfl
  ·rfl
 |load t x =>
  have hop':=hop0 (by simp[hop]) (by simp[hop])
  simp only[hop,bZ]at hop'
  have hx:=lZ hop' (x:=x) (aZ (by simp[Op.operands]))
  have e:one st' x=one st x:=da hx.1
  have hr:∀ q∈ay [one st x],st' q=st q:=fun q hq=>hx.2 q (ru hq)
  simp only[act,hop,e,hw]
  congr 1
  split
  ·rfl
  ·rename_i b off hl
   rw[hl]at hr
   rw[hr b (by simp[ay])]
  ·rfl
  ·rename_i p ks ep a y off hl
   rw[hl]at hr
   rw[iB (fun q hq=>hr q (by simpa[ay]using hq))]
  ·rename_i r j v i sz off hl
   rw[hl]at hr
   rw[bW (l:=.al r j v) (fun q hq=>hr q (by simp[av]at hq;simp[ay,hq])),hr EPO (by simp[ay])]
  ·rfl
 |store t x y =>
  have hop':=hop0 (by simp[hop]) (by simp[hop])
  simp only[hop,bZ]at hop'
  have hx:=lZ hop' (x:=x) (aZ (by simp[Op.operands]))
  have hy:=lZ hop' (x:=y) (aZ (by simp[Op.operands]))
  have e:one st' x=one st x:=da hx.1
  have e2:ar st' y=ar st y:=dv hy.1
  have hr:∀ q∈ay [one st x],st' q=st q:=fun q hq=>hx.2 q (ru hq)
  have hya:∀ q∈av (ar st y).2,st' q=st q:=fun q hq=>hy.2 q (eU hq)
  simp only[act,hop,e,e2,oT hya,nA hya,rr hya]
  split
  ·rfl
  ·congr 1
   split
   ·rename_i b off hl
    rw[hl]at hr
    have hb:=hr b (by simp[ay])
    simp only[hb,bb hb]
   ·rename_i r j v i sz off hl
    rw[hl]at hr
    have hrr:=hr r (by simp[ay])
    rw[bW (l:=.al r j v) (fun q hq=>hr q (by simp[av]at hq;simp[ay,hq]))]
    split
    ·rw[tZ hrr (hr EPO (by simp[ay])) hya]
    ·rfl
   ·rfl
 |nilCheck x =>
  have hop':=hop0 (by simp[hop]) (by simp[hop])
  simp only[hop,bZ]at hop'
  have hx:=cZ hop' (x:=x) (aZ (by simp[Op.operands]))
  have e:one st' x=one st x:=da hx.1
  have hr:∀ q∈av [one st x],st' q=st q:=fun q hq=>hx.2 q (ia hq)
  simp only[act,hop,e,hw]
  split
  ·rfl
  ·rfl
  ·rename_i r j v i sz off hl
   rw[hl]at hr
   rw[hr r (by simp[av])]
  ·rfl
  ·rename_i p ks ep a y off hl
   rw[hl,sU]at hr
   rw[iB hr]
  ·rfl
 |binOp op t x y t' =>
  have hop':=hop0 (by simp[hop]) (by simp[hop])
  simp only[hop,bZ]at hop'
  have hx:=cZ hop' (x:=x) (aZ (by simp[Op.operands]))
  have hy:=cZ hop' (x:=y) (aZ (by simp[Op.operands]))
  have e1:one st' x=one st x:=da hx.1
  have e2:one st' y=one st y:=da hy.1
  have e3:ar st' x=ar st x:=dv hx.1
  have e4:ar st' y=ar st y:=dv hy.1
  simp only[act,hop,e1,e2,e3,e4,hw,dY hx.2,dY hy.2]
 |unOp op t x =>
  have hop':=hop0 (by simp[hop]) (by simp[hop])
  simp only[hop,bZ]at hop'
  have e1:one st' x=one st x:=da fun t ht=>hop' t (aZ (by simp[Op.operands]) t ht)
  simp only[act,hop,e1,hw]
 |convert s t x =>
  have hop':=hop0 (by simp[hop]) (by simp[hop])
  simp only[hop,bZ]at hop'
  have hx:=cZ hop' (x:=x) (aZ (by simp[Op.operands]))
  have e1:one st' x=one st x:=da hx.1
  have hr:∀ q∈av [one st x],st' q=st q:=fun q hq=>hx.2 q (ia hq)
  simp only[act,hop,e1,hw]
  split
  ·rfl
  ·rw[bW hr]
  ·rfl
 |makeSlice t n c =>
  have hop':=hop0 (by simp[hop]) (by simp[hop])
  simp only[hop,bZ]at hop'
  have e1:one st' n=one st n:=da fun t ht=>hop' t (aZ (by simp[Op.operands]) t ht)
  have e2:one st' c=one st c:=da fun t ht=>hop' t (aZ (by simp[Op.operands]) t ht)
  simp only[act,hop,e1,e2,hw]
 |slice t x lo hi mx =>
  have hop':=hop0 (by simp[hop]) (by simp[hop])
  simp only[hop,bZ]at hop'
  have hE:=hop' EPO (List.mem_cons_self ..)
  have hop':=fun q hq=>hop' q (List.mem_cons_of_mem _ hq)
  have hx:=cZ hop' (x:=x) (aZ (by simp[Op.operands]))
  have hlo:∀ n,cO st' lo n=cO st lo n:=fun n=>lV fun y hy t ht=>hop' t (List.mem_append_left _ (aZ (by simp[Op.operands,hy]) t ht))
  have hhi:∀ n,cO st' hi n=cO st hi n:=fun n=>lV fun y hy t ht=>hop' t (List.mem_append_left _ (aZ (by simp[Op.operands,hy]) t ht))
  have e:one st' x=one st x:=da hx.1
  have hr:∀ q∈av [one st x],st' q=st q:=fun q hq=>hx.2 q (ia hq)
  have hmx:∀ m,mx=some m→cO st' (some m) 0=cO st (some m) 0:=fun m hm=>lV fun y hy t ht=>hop' t (List.mem_append_left _ (aZ (by simp[Op.operands,hm,Option.some.inj hy]) t ht))
  simp only[act,hop,e,hlo,hhi,bW hr,hE]
  cases hd:o.dst with
  |none=>cases mx <;> rfl
  |some d =>
   cases mx with
   |none=>simp only[hput _ _ _ _ hd]
   |some m =>
    simp only[hmx m rfl]
    split
    ·rename_i r j v _ hl _
     rw[hl]at hr
     rw[bW hr,gn (st:=st) (st':=st') (fun z hz=>by simp at hz;subst hz;exact hr _ (by simp[av]))]
     simp only[hput _ _ _ _ hd]
    ·rfl
 |fieldAddr t x f =>
  have hop':=hop0 (by simp[hop]) (by simp[hop])
  simp only[hop,bZ]at hop'
  have hx:=cZ hop' (x:=x) (aZ (by simp[Op.operands]))
  have e:one st' x=one st x:=da hx.1
  have hr:∀ q∈av [one st x],st' q=st q:=fun q hq=>hx.2 q (ia hq)
  simp only[act,hop,e,hw]
  split
  ·split
   ·split
    ·rfl
    ·rfl
    ·rename_i r j v i sz off hl
     rw[hl]at hr
     rw[hr r (by simp[av])]
    ·rename_i p ks ep a y o' hl
     rw[hl,sU]at hr
     rw[iB hr]
    ·rfl
   ·rfl
  ·rfl
 |field t x f =>
  have hop':=hop0 (by simp[hop]) (by simp[hop])
  simp only[hop,bZ]at hop'
  have e1:ar st' x=ar st x:=dv fun t ht=>hop' t (aZ (by simp[Op.operands]) t ht)
  simp only[act,hop,e1,hw]
 |indexAddr t x i =>
  simp only[hop,ek]at hh
  have hsl:∀ y∈(Op.indexAddr t x i).operands,∀ t,y=.tmp t→bA (st' t)=bA (st t):=fun y hy t ht=>hh t (List.mem_append_left _ (aZ hy t ht))
  have e:one st' x=one st x:=wA (hsl x (by simp[Op.operands]))
  have e2:one st' i=one st i:=wA (hsl i (by simp[Op.operands]))
  have hr:∀ q∈av [one st x],bA (st' q)=bA (st q):=fun q hq=>by
   obtain⟨t',ht',hq⟩:=po (ia hq)
   have hts:=aZ (xs:=(Op.indexAddr t x i).operands) (x:=x) (by simp[Op.operands]) t' ht'
   rcases hq with rfl|hq
   ·exact hh q (List.mem_append_left _ hts)
   ·exact hh q (List.mem_append_right _ (List.mem_flatMap.2 ⟨t',hts,hq⟩))
  simp only[act,hop,e,e2,hw]
  split
  ·split
   ·rfl
   ·split
    ·rename_i r j v hl
     rw[hl]at hr
     have hq:=hr r (by simp[av])
     have hv:(st' r).ver=(st r).ver:=by simp only[bA,Prod.mk.injEq]at hq;exact hq.1
     simp only[aB,hv]
     cases Nat.beq (st r).ver v with
     |false=>rfl
     |true =>
      simp only[cond_true]
      rcases rv (vg hq j) with e3|⟨p,p',h1,h2,E1,E2,e',e'',xs,xs',e3,e4,e5,e6⟩
      ·rw[e3]
      ·rw[e3,e4]
       simp only[ma,e5,wZ,e6]
    ·rfl
    ·rename_i p ks ep loc E' e' xs hl
     rw[hl,gm]at hr
     rw[wd hr]
    ·rfl
   ·rfl
  ·rfl
 |index t x i =>
  have hop':=hop0 (by simp[hop]) (by simp[hop])
  simp only[hop,bZ]at hop'
  have hx:=cZ hop' (x:=x) (aZ (by simp[Op.operands]))
  have e1:one st' x=one st x:=da hx.1
  have e2:one st' i=one st i:=da (cZ hop' (x:=i) (aZ (by simp[Op.operands]))).1
  have e3:ar st' x=ar st x:=dv hx.1
  simp only[act,hop,e1,e2,e3,hw,fun e n=>lS (e:=e) n _ hx.2]
 |extract x i =>
  have hop':=hop0 (by simp[hop]) (by simp[hop])
  simp only[hop,bZ]at hop'
  have e1:ar st' x=ar st x:=dv fun t ht=>hop' t (aZ (by simp[Op.operands]) t ht)
  simp only[act,hop,e1,hw]
 |makeFunc fn first caps =>
  have hop':=hop0 (by simp[hop]) (by simp[hop])
  simp only[hop,bZ]at hop'
  cases fn with
  |func f =>
   have:qe st' caps.toList=qe st caps.toList:=sX (st:=st) (st':=st') caps.toList (some []) (fun x hx t ht=>hop' t (aZ (by simp[Op.operands];exact .inr (by simpa using hx)) t ht))
   simp only[act,hop,hw,this]
  |_=>simp only[act,hop]
 |call c =>
  have hop':=hop0 (by simp[hop]) (by simp[hop])
  simp only[hop,bZ]at hop'
  simp only[act,hop]
  split
  ·rfl
  ·rename_i d hd
   obtain⟨hdd,hdB⟩:=rx hd h
   cases hc:c.callee with
   |value f =>
    simp only[hc]at hop'
    have hT:=hop' TMP (List.mem_cons_self ..)
    have hE:=hop' EPO (List.mem_cons_of_mem _ (List.mem_cons_self ..))
    have hop':=fun q hq=>hop' q (List.mem_cons_of_mem _ (List.mem_cons_of_mem _ hq))
    have hmf:f∈(Op.call c).operands:=by simp[Op.operands,Call.operands,hc]
    have hma:∀ x∈c.args.toList,x∈(Op.call c).operands:=fun x hx=>by
     simp only[Op.operands,Call.operands,hc,Array.mem_append]
     exact .inr (by simpa using hx)
    have hts:∀ x∈(Op.call c).operands,∀ t,x=.tmp t→st' t=st t:=fun x hx t ht=>hop' t (by
     unfold jC
     exact List.mem_append_left _ (List.mem_append_left _ (List.mem_append_left _ (aZ hx t ht))))
    have e1:one st' f=one st f:=da (hts f hmf)
    have e2:c.args.toList.map (ar st')=c.args.toList.map (ar st):=List.map_congr_left fun x hx=>dv (hts x (hma x hx))
    have hdeep:∀ x∈c.args.toList.map (ar st),ea st st' x.2:=by
     intro x hx
     obtain⟨y,hy,rfl⟩:=List.mem_map.1 hx
     exact om hop' (aZ (hma y hy))
    simp only[e1,e2]
    split
    ·rename_i g caps hl
     refine rB hT hE ?_ hdd hdB
     intro x hx
     rcases List.mem_append.1 hx with hx|hx
     ·exact hdeep x hx
     ·obtain⟨b,hb,rfl⟩:=List.mem_map.1 hx
      have hf:=om hop' (aZ hmf)
      rw[oU hl (by simp)]at hf
      exact nD hf _ (List.mem_map.2 ⟨b,hb,rfl⟩)
    ·rename_i g caps hl
     refine rB hT hE ?_ hdd hdB
     intro x hx
     rcases List.mem_append.1 hx with hx|hx
     ·exact hdeep x hx
     ·obtain⟨cp,hcp,rfl⟩:=List.mem_map.1 hx
      exact lY _ (List.mem_map.2 ⟨cp,hcp,rfl⟩)
    ·rename_i As B φ hl
     rw[pu As _ (fun x hx q hq=>(hdeep x hx).d1 q (eU hq))]
     simp only[hw]
    ·rfl
   |builtin b =>
    simp only[hc]at hop'
    have hT:=hop' TMP (List.mem_cons_self ..)
    have hop':=fun q hq=>hop' q (List.mem_cons_of_mem _ hq)
    have hma:∀ x∈c.args.toList,x∈(Op.call c).operands:=fun x hx=>by
     simp only[Op.operands,Call.operands,hc,Array.mem_append]
     exact .inr (by simpa using hx)
    have hx:∀ x∈c.args.toList,one st' x=one st x∧∀ q∈av [one st x],st' q=st q:=fun x hx=>by
     have:=cZ hop' (aZ (hma x hx))
     exact⟨da this.1,fun q hq=>this.2 q (ia hq)⟩
    cases b with
    |len =>
     dsimp only
     split
     ·rename_i x hxx
      have h1:=hx x (by rw[hxx];simp)
      simp only[h1.1,bW h1.2,hw]
     ·rfl
    |append =>
     dsimp only
     split
     ·rename_i x y t u hxx _
      have h1:=hx x (by rw[hxx];simp)
      have h2:=hx y (by rw[hxx];simp)
      split
      ·rw[h1.1,h2.1,tX hT h1.2 h2.2 hdd]
      ·rfl
     ·rfl
    |min =>
     dsimp only
     split
     ·rename_i x y hxx
      rw[(hx x (by rw[hxx];simp)).1,(hx y (by rw[hxx];simp)).1]
      simp only[hw]
     ·rfl
    |max =>
     dsimp only
     split
     ·rename_i x y hxx
      rw[(hx x (by rw[hxx];simp)).1,(hx y (by rw[hxx];simp)).1]
      simp only[hw]
     ·rfl
    |_=>rfl
   |invoke x n=>rfl
 |_=>simp only[act,hop]
end
end Go.Proofs.YthgnfidnmnkeaaaGreatEv
namespace Go.Proofs.YthgnfidnmnkeaaaGreatEv
open Go Go.RowKit
section
variable {P:Program} {V:Env} {Γ:List Ctr} {T:TypeId→TI} {st st':St} {o:Oper} {R:Type} {all:Array Oper}
def kW (Γ:List Ctr)(T:TypeId→TI)(all:Array Oper)(o:Oper)(st:St)(U:Upd):Prop :=
 match o.guard with
 |none=>act Γ T o st some=some U
 |some (j,want)=>∃ t,(all[j]?).bind (·.dst)=some t ∧
  ((∃ b,(st t).sh=.one∧(st t).ls=[.bool b]∧((b=want∧act Γ T o st some=some U)∨(b≠want∧U=d5 st o)))∨((st t).sh=.und∧U=d5 st o))
def iC (Γ:List Ctr)(T:TypeId→TI)(all:Array Oper)(o:Oper)(st:St)(U:Upd)(t:ci):Prop :=
 ((∀ q∈U.map (·.1),q∈t.wr∨q∈t.cw)∧(∀ q∈t.wr,q∈U.map (·.1))∧∀ q,q∈U.map (·.1)→q∉t.wr→bA (ab U st q)=bA (st q))∧match o.guard with
 |none=>act Γ T o st some=some U∧(∀ q∈eL st o,q∈t.rd)∧∀ q∈ek st o.op,q∈t.hd
 |some (j,want)=>∃ s,(all[j]?).bind (·.dst)=some s∧s∈t.rd ∧
  ((∃ b,(st s).sh=.one∧(st s).ls=[.bool b]∧((b=want∧act Γ T o st some=some U∧(∀ q∈eL st o,q∈t.rd)∧∀ q∈ek st o.op,q∈t.hd)∨(b≠want∧U=d5 st o∧∀ d,o.dst=some d→d∈t.wr))) ∨
   ((st s).sh=.und∧U=d5 st o∧∀ d,o.dst=some d→d∈t.wr))
theorem rD {α:Type}:∀ {l:List α} {j:Nat} {x:α},l[j]?=some x→l.set j x=l
 |[],_,_,h=>by simp at h
 |y::l,0,x,h=>by simp at h;subst h;rfl
 |y::l,j+1,x,h=>by rw[List.set_cons_succ,rD (by simpa using h)]
theorem w3 {U:Upd}(h:act Γ T o st some=some U):∀ q∈dB st o,bA (ab U st q)=bA (st q):=by
 intro q hq
 unfold dB at hq
 split at hq
 ·rename_i t x y hop
  split at hq
  ·rename_i r j ver i sz off hx
   simp only[List.mem_singleton]at hq
   subst hq
   simp only[act,wrU,hop]at h
   split at h
   ·cases h
   ·cases hb:Nat.beq (ar st y).2.length (T t).cells&&decide ((ar st y).1=a7 (T t).agg)&&!decide ((T t).cells=0) with
    |false=>simp[hb]at h
    |true =>
     simp only[hb,cond_true,hx]at h
     split at h
     ·rename_i p hh E e xs hd
      cases hc:Nat.beq sz e.cells&&decide (off+(ar st y).2.length≤e.cells)&&pV q with
      |false=>simp[hc]at h
      |true =>
       simp only[hc,cond_true]at h
       obtain⟨_,hl⟩:=eG hd (by simp)
       have key:∀ (p':Bool) (hh':Option (Nat×Nat)) (v:e.den) (X:Upd),bA (ab ((q,⟨(st q).ver,(st q).sh,aP (st q).ls j (.own p' hh' E e (xs.set i v))⟩)::X) st q)=bA (st q):=by
        intro p' hh' v X
        rw[aM,a9]
        simp only[bA,aP]
        rw[List.map_set,rD]
        rw[List.getElem?_map,hl]
        simp[ir]
       unfold fO at h
       obtain⟨old,_,h⟩:=Option.bind_eq_some_iff.1 h
       split at h
       ·rename_i t _
        cases hd2:t.rest.isEmpty&&aU t.kill&&c8 t.frz t.kill&&!((t.kill++t.frz).any fun k=>Nat.beq k.1 q) with
        |false=>rw[hd2]at h;cases h
        |true =>
         simp only[hd2,cond_true]at h
         cases hh with
         |none =>
          simp only[Option.some.injEq]at h
          rw[← h]
          exact key _ _ _ _
         |some hp =>
          obtain⟨hi,ho⟩:=hp
          simp only at h
          cases h1:Nat.ble off ho&&Nat.blt ho (off+(ar st y).2.length) with
          |false =>
           rw[h1]at h
           simp only[cond_false,Option.some.injEq]at h
           rw[← h]
           exact key _ _ _ _
          |true =>
           rw[h1]at h
           simp only[cond_true]at h
           cases h2:Nat.beq i hi <;> rw[h2]at h <;> simp only[cond_true,cond_false,Option.some.injEq]at h <;> rw[← h] <;> exact key _ _ _ _
       ·cases h
     ·cases h
  ·simp at hq
 ·simp at hq
theorem nF {t:Nat}{b:Bool}(h1:(st t).sh=.one)(h2:(st t).ls=[.bool b]):lit st t b=st:=by
 funext q
 unfold lit
 rcases aj t q ⟨(st t).ver,.one,[.bool b]⟩ st with ⟨rfl,e⟩|⟨_,e⟩
 ·rw[e,← h1,← h2]
 ·exact e
theorem ua {U:Upd}(h:act Γ T o st some=some U):(∀ q∈U.map (·.1),q∈(U.map (·.1)).filter (fun q=>!((dB st o).any (Nat.beq q)))∨q∈dB st o)∧(∀ q∈(U.map (·.1)).filter (fun q=>!((dB st o).any (Nat.beq q))),q∈U.map (·.1)) ∧
  ∀ q,q∈U.map (·.1)→q∉(U.map (·.1)).filter (fun q=>!((dB st o).any (Nat.beq q)))→bA (ab U st q)=bA (st q):=by
 have hany:∀ q,(dB st o).any (Nat.beq q)=true→q∈dB st o:=fun q hq=>by
  obtain⟨x,hx,he⟩:=List.any_eq_true.1 hq
  rw[Nat.eq_of_beq_eq_true he];exact hx
 refine⟨fun q hq=>?_,fun q hq=>(List.mem_filter.1 hq).1,fun q hq hn=>?_⟩
 ·cases hc:(dB st o).any (Nat.beq q) with
  |true=>exact .inr (hany q hc)
  |false=>exact .inl (List.mem_filter.2 ⟨hq,by rw[hc];rfl⟩)
 ·refine w3 h q (hany q ?_)
  cases hc:(dB st o).any (Nat.beq q) with
  |true=>rfl
  |false=>exact absurd (List.mem_filter.2 ⟨hq,by rw[hc];rfl⟩) hn
theorem w4 {κ:St→ci→Option R}{r:R}(h:opK Γ T all o st κ=some r):∃ U t,iC Γ T all o st U t∧κ (ab U st) t=some r:=by
 have hgo:∀ (more:List Nat),act Γ T o st (fun U=>κ (ab U st) ⟨more++eL st o,ek st o.op,(U.map (·.1)).filter (fun q=>!((dB st o).any (Nat.beq q))),dB st o⟩)=some r →
   ∃ U,act Γ T o st some=some U∧κ (ab U st) ⟨more++eL st o,ek st o.op,(U.map (·.1)).filter (fun q=>!((dB st o).any (Nat.beq q))),dB st o⟩=some r:=by
  intro more h
  rw[rq]at h
  obtain⟨U,h1,h2⟩:=Option.bind_eq_some_iff.1 h
  exact⟨U,h1,h2⟩
 have hskip:((∀ q∈(d5 st o).map (·.1),q∈o.dst.toList∨q∈([]:List Nat))∧(∀ q∈o.dst.toList,q∈(d5 st o).map (·.1))∧∀ q,q∈(d5 st o).map (·.1)→q∉o.dst.toList→bA (ab (d5 st o) st q)=bA (st q)):=by
  unfold d5
  cases o.dst with
  |none=>simp
  |some d=>simp
 unfold opK at h
 unfold iC
 cases hg:o.guard with
 |none =>
  simp only[hg]at h
  obtain⟨U,h1,h2⟩:=hgo [] h
  exact⟨U,_,⟨ua h1,h1,fun q hq=>by simpa using hq,fun q hq=>hq⟩,h2⟩
 |some jw =>
  obtain⟨j,want⟩:=jw
  simp only[hg]at h
  split at h
  ·rename_i t ht
   have hdst:∀ d,o.dst=some d→d∈o.dst.toList:=fun d hd=>by simp[hd]
   split at h
   ·rename_i b hsh hls
    have hl:∀ b',b'=b→lit st t b'=st:=fun b' e=>nF hsh (by rw[hls,e])
    cases b with
    |true =>
     simp only[cond_true,hl true rfl]at h
     cases want with
     |true =>
      simp only[cond_true]at h
      obtain⟨U,h1,h2⟩:=hgo [t] h
      exact⟨U,_,⟨ua h1,t,ht,by simp,.inl ⟨true,hsh,hls,.inl ⟨rfl,h1,fun q hq=>List.mem_append_right _ hq,fun q hq=>hq⟩⟩⟩,h2⟩
     |false =>
      simp only[cond_false]at h
      exact⟨d5 st o,_,⟨hskip,t,ht,by simp,.inl ⟨true,hsh,hls,.inr ⟨by simp,rfl,hdst⟩⟩⟩,h⟩
    |false =>
     simp only[cond_false,hl false rfl]at h
     cases want with
     |true =>
      simp only[cond_true]at h
      exact⟨d5 st o,_,⟨hskip,t,ht,by simp,.inl ⟨false,hsh,hls,.inr ⟨by simp,rfl,hdst⟩⟩⟩,h⟩
     |false =>
      simp only[cond_false]at h
      obtain⟨U,h1,h2⟩:=hgo [t] h
      exact⟨U,_,⟨ua h1,t,ht,by simp,.inl ⟨false,hsh,hls,.inl ⟨rfl,h1,fun q hq=>List.mem_append_right _ hq,fun q hq=>hq⟩⟩⟩,h2⟩
   ·rename_i hsh
    exact⟨d5 st o,_,⟨hskip,t,ht,by simp,.inr ⟨hsh,rfl,hdst⟩⟩,h⟩
   ·cases h
  ·cases h
theorem sY {U:Upd}(e:U=d5 st o)(hd:∀ d,o.dst=some d→st' d=st d):U=d5 st' o:=by
 rw[e]
 unfold d5
 cases hdd:o.dst with
 |none=>rfl
 |some d=>simp only[hd d hdd]
theorem iC.frame {U:Upd}{t:ci}(h:iC Γ T all o st U t)(hs:∀ q,q∈t.rd∨q∈t.wr→st' q=st q)(hh:∀ q∈t.hd,bA (st' q)=bA (st q)):kW Γ T all o st' U:=by
 obtain⟨_,h⟩:=h
 have hact:act Γ T o st some=some U→(∀ q∈eL st o,q∈t.rd)→(∀ q∈ek st o.op,q∈t.hd)→act Γ T o st' some=some U:=by
  intro h1 h2 h3
  rw[xx (fun q hq=>hs q (.inl (h2 q hq))) (fun q hq=>hh q (h3 q hq))]
  exact h1
 unfold kW
 cases hg:o.guard with
 |none =>
  rw[hg]at h
  exact hact h.1 h.2.1 h.2.2
 |some jw =>
  obtain⟨j,want⟩:=jw
  rw[hg]at h
  obtain⟨s,h1,h2,h3⟩:=h
  have hss:=hs s (.inl h2)
  refine⟨s,h1,?_⟩
  rw[hss]
  rcases h3 with ⟨b,h4,h5,h6⟩|⟨h4,h5,h6⟩
  ·refine .inl ⟨b,h4,h5,?_⟩
   rcases h6 with ⟨h7,h8,h9,h10⟩|⟨h7,h8,h9⟩
   ·exact .inl ⟨h7,hact h8 h9 h10⟩
   ·exact .inr ⟨h7,sY h8 (fun d hd=>hs d (.inr (h9 d hd)))⟩
  ·exact .inr ⟨h4,sY h5 (fun d hd=>hs d (.inr (h6 d hd)))⟩
theorem ub (hV:ax V)(hT:TOk P T)(hΓ:∀ c∈Γ,af P c){ops:Array Oper}{i:Nat}(hi:ops[i]?=some o)(hok:bC V o)(hguard:∀ j want,o.guard=some (j,want)→∀ s,(ops[j]?).bind (·.dst)=some s→s<V.nt)
  {U:Upd} (h:kW Γ T ops o st U) {a:Act} {w:World} (hr:Rel P V st a w) {K:Act→World→Prop} {Q:Exit→Act→World→Prop} (hK:∀ a' w',Rel P V (ab U st) a' w'→K a' w'):wpOp P ops Q i K a w:=by
 obtain⟨W,hr⟩:=hr
 unfold wpOp
 simp only[hi]
 have hgo:act Γ T o st some=some U→o.wp P a w K Q:=by
  intro h1
  obtain⟨U',h2,h3⟩:=xw hV hT hΓ hok h1
  cases h2
  exact h3 W a w hr K Q hK
 have hskip:U=d5 st o→K (a.put o.dst undef) w:=by
  intro e
  refine hK _ _ ?_
  subst e
  unfold d5
  cases hd:o.dst with
  |none=>exact⟨W,hr⟩
  |some d=>exact hr.putLs hV d (hok d hd).1 (hok d hd).2 _ .und [] undef [] (Nat.lt_succ_self _) ⟨rfl,rfl⟩ trivial
 unfold kW at h
 cases hg:o.guard with
 |none =>
  rw[hg]at h
  have hw:Region.wanted o (yielded ops a.tmps)=true:=by simp[Region.wanted,hg]
  rw[if_pos hw]
  exact .inl (hgo h)
 |some jw =>
  obtain⟨j,want⟩:=jw
  rw[hg]at h
  obtain⟨s,h1,h2⟩:=h
  have hsn:=hguard j want hg s h1
  have hsB:s<GH:=Nat.lt_of_lt_of_le hsn hV.nt
  have hslot:=hr.slots s hsB
  have hsz:s<a.tmps.size:=by rw[hr.nt];exact hsn
  have hget:a.tmps[s]?=some (a.tmps.getD s undef):=by
   rw[Array.getD_eq_getD_getElem?,Array.getElem?_eq_getElem hsz]
   rfl
  rcases h2 with ⟨b,h3,h4,h5⟩|⟨h3,h5⟩
  ·have hlen:=hr.len s
   rw[h4]at hlen
   rw[h3]at hslot
   have hslot:W.cs s=[a.tmps.getD s undef]:=hslot
   have hv:=hr.leaf s 0 (.bool b) (a.tmps.getD s undef) (by rw[h4];rfl) (by rw[hslot];rfl)
   have hv:a.tmps.getD s undef=.bool b:=hv
   have hy:yielded ops a.tmps j=some b:=by simp[yielded,h1,hget,hv]
   rcases h5 with ⟨rfl,h6⟩|⟨h6,h7⟩
   ·have hw:Region.wanted o (yielded ops a.tmps)=true:=by simp[Region.wanted,hg,hy]
    rw[if_pos hw]
    exact .inl (hgo h6)
   ·have hw:Region.wanted o (yielded ops a.tmps)=false:=by
     simp only[Region.wanted,hg,hy]
     cases b <;> cases want <;> simp at h6 <;> rfl
    rw[hw]
    exact hskip h7
  ·rw[h3]at hslot
   obtain⟨hv,_⟩:=hslot
   have hy:yielded ops a.tmps j=none:=by
    unfold yielded
    rw[h1,Option.bind_some,hget,hv]
    rfl
   have hw:Region.wanted o (yielded ops a.tmps)=false:=by simp[Region.wanted,hg,hy]
   rw[hw]
   exact hskip h5
def Run (Γ:List Ctr)(T:TypeId→TI)(all:Array Oper):St→List Oper→List Upd→List ci→St→Prop
 |st,[],[],[],st'=>st'=st
 |st,o::os,U::us,t::ts,st'=>iC Γ T all o st U t∧Run Γ T all (ab U st) os us ts st'
 |_,_,_,_,_=>False
theorem nG:∀ (os:List Oper) (st:St) (ts:List ci) (κ:St→List ci→Option R) (r:R),ox Γ T all os st ts κ=some r →
  ∃ us ts' st',Run Γ T all st os us ts' st'∧κ st' (ts++ts')=some r
 |[],st,ts,κ,r,h=>⟨[],[],st,rfl,by simpa[ox]using h⟩
 |o::os,st,ts,κ,r,h=>by
  simp only[ox]at h
  obtain⟨U,t,h1,h2⟩:=w4 h
  obtain⟨us,ts',st',h3,h4⟩:=nG os (ab U st) (ts++[t]) κ r h2
  exact⟨U::us,t::ts',st',⟨h1,h3⟩,by rw[List.append_assoc]at h4;exact h4⟩
theorem iC.res {U:Upd}{t:ci}(h:iC Γ T all o st U t):kW Γ T all o st U:=h.frame (fun _ _=>rfl) (fun _ _=>rfl)
theorem sZ (hV:ax V)(hT:TOk P T)(hΓ:∀ c∈Γ,af P c){ops:Array Oper}(hok:∀ (i:Nat) (o:Oper),ops[i]?=some o→bC V o)
  (hguard:∀ (i:Nat) (o:Oper),ops[i]?=some o→∀ j want,o.guard=some (j,want)→∀ s,(ops[j]?).bind (·.dst)=some s→s<V.nt) {Q:Exit→Act→World→Prop} :
  ∀ (os:List Oper) (k:Nat) (st:St) (us:List Upd) (ts:List ci) (st':St),ops.toList.drop k=os→Run Γ T ops st os us ts st'→(∀ a w,Rel P V st' a w→Q .normal a w) →
   ∀ a w,Rel P V st a w→wpOps P ops Q (List.range' k os.length) a w
 |[],k,st,[],[],st',_,h,hQ,a,w,hr=>by
  have h:st'=st:=h
  subst h
  exact hQ a w hr
 |o::os,k,st,U::us,t::ts,st',hk,h,hQ,a,w,hr=>by
  obtain⟨h1,h2⟩:=h
  have hi:ops[k]?=some o:=by
   have:(ops.toList.drop k)[0]?=some o:=by rw[hk];rfl
   rw[List.getElem?_drop]at this
   simpa using this
  rw[List.length_cons,List.range'_succ,wpOps_cons]
  refine ub hV hT hΓ hi (hok k o hi) (hguard k o hi) h1.res hr (fun a' w' hr'=>?_)
  exact sZ hV hT hΓ hok hguard os (k+1) (ab U st) us ts st' (by rw[← List.drop_drop,hk];rfl) h2 hQ a' w' hr'
end
end Go.Proofs.YthgnfidnmnkeaaaGreatEv
namespace Go.Proofs.YthgnfidnmnkeaaaGreatEv
open Go Go.RowKit
section
variable {P:Program} {V:Env} {Γ:List Ctr} {T:TypeId→TI} {st st':St} {o:Oper} {R:Type} {all:Array Oper}
def cN (D:Nat→Bool):List Upd→St→St
 |[],st=>st
 |U::us,st=>cN (fun j=>D (j+1)) us (bif D 0 then ab U st else st)
theorem ib {q:Nat}:∀ {U:Upd} (s s':St),q∈U.map (·.1)→ab U s q=ab U s' q
 |[],_,_,h=>by simp at h
 |(r,c)::U,s,s',h=>by
  simp only[ab]
  cases hb:Nat.beq q r with
  |true=>rfl
  |false =>
   simp only[cond_false]
   refine ib s s' ?_
   simp only[List.map_cons,List.mem_cons]at h
   rcases h with rfl|h
   ·simp at hb
   ·exact h
theorem dZ {q:Nat}:∀ {U:Upd} (s:St),q∉U.map (·.1)→ab U s q=s q
 |[],_,_=>rfl
 |(r,c)::U,s,h=>by
  simp only[List.map_cons,List.mem_cons,not_or]at h
  have hb:Nat.beq q r=false:=by
   cases hb:Nat.beq q r with
   |false=>rfl
   |true=>exact absurd (Nat.eq_of_beq_eq_true hb) h.1
  simp only[ab,hb,cond_false]
  exact dZ s h.2
theorem vh {U U':Upd}(h:∀ q,q∈U.map (·.1)→q∉U'.map (·.1))(s:St):ab U' (ab U s)=ab U (ab U' s):=by
 funext q
 by_cases h1:q∈U.map (·.1)
 ·rw[dZ _ (h q h1)]
  exact ib _ _ h1
 ·rw[dZ (U:=U) _ h1]
  by_cases h2:q∈U'.map (·.1)
  ·exact ib _ _ h2
  ·rw[dZ _ h2,dZ _ h2,dZ _ h1]
theorem kX:∀ {us:List Upd} {D D':Nat→Bool} {s:St},(∀ j,j<us.length→D j=D' j)→cN D us s=cN D' us s
 |[],_,_,_,_=>rfl
 |U::us,D,D',s,h=>by
  simp only[cN]
  rw[h 0 (by simp)]
  exact kX (fun j hj=>h (j+1) (by simpa using hj))
theorem l5:∀ {us:List Upd} {D:Nat→Bool} {s:St},(∀ j,D j=false)→cN D us s=s
 |[],_,_,_=>rfl
 |U::us,D,s,h=>by
  simp only[cN,h 0,cond_false]
  exact l5 (fun j=>h (j+1))
theorem kY {q:Nat}:∀ {us:List Upd} {D D':Nat→Bool} {s s':St},s q=s' q→(∀ (j:Nat) (U:Upd),us[j]?=some U→q∈U.map (·.1)→D j=D' j)→cN D us s q=cN D' us s' q
 |[],_,_,_,_,h,_=>h
 |U::us,D,D',s,s',h,H=>by
  simp only[cN]
  refine kY ?_ (fun j U' h1 h2=>H (j+1) U' (by simpa using h1) h2)
  by_cases hq:q∈U.map (·.1)
  ·rw[H 0 U rfl hq]
   cases D' 0 with
   |true=>exact ib _ _ hq
   |false=>exact h
  ·have e1:∀ b:Bool,(bif b then ab U s else s) q=s q:=by intro b;cases b <;> simp[dZ _ hq]
   have e2:∀ b:Bool,(bif b then ab U s' else s') q=s' q:=by intro b;cases b <;> simp[dZ _ hq]
   rw[e1,e2,h]
theorem l6 {U:Upd}:∀ {us:List Upd} {D:Nat→Bool} {s:St},(∀ (j:Nat) (U':Upd),us[j]?=some U'→D j=true→∀ q,q∈U.map (·.1)→q∉U'.map (·.1))→cN D us (ab U s)=ab U (cN D us s)
 |[],_,_,_=>rfl
 |U'::us,D,s,h=>by
  simp only[cN]
  cases hD:D 0 with
  |true =>
   simp only[cond_true]
   rw[vh (h 0 U' rfl hD)]
   exact l6 (fun j U'' h1 h2=>h (j+1) U'' (by simpa using h1) h2)
  |false =>
   simp only[cond_false]
   exact l6 (fun j U'' h1 h2=>h (j+1) U'' (by simpa using h1) h2)
theorem mT {U:Upd}:∀ {us:List Upd} {i:Nat} {D D':Nat→Bool} {s:St},us[i]?=some U→D i=false→(∀ j,D' j=(D j||Nat.beq j i)) →
  (∀ (j:Nat) (U':Upd),us[j]?=some U'→i<j→D j=true→∀ q,q∈U.map (·.1)→q∉U'.map (·.1))→cN D' us s=ab U (cN D us s)
 |[],i,_,_,_,h,_,_,_=>by simp at h
 |V::us,0,D,D',s,h,hD,hD',H=>by
  simp at h
  subst h
  simp only[cN]
  have h0:D' 0=true:=by rw[hD' 0];simp
  rw[h0,hD]
  simp only[cond_true,cond_false]
  have e:cN (fun j=>D' (j+1)) us (ab V s)=cN (fun j=>D (j+1)) us (ab V s):=kX (fun j _=>by rw[hD' (j+1)];simp[Nat.beq])
  rw[e]
  exact l6 (fun j U' h1 h2=>H (j+1) U' (by simpa using h1) (by omega) h2)
 |V::us,i+1,D,D',s,h,hD,hD',H=>by
  simp only[cN]
  have h0:D' 0=D 0:=by rw[hD' 0];simp[Nat.beq]
  rw[h0]
  exact mT (i:=i) (by simpa using h) hD (fun j=>by rw[hD' (j+1)];simp[Nat.beq]) (fun j U' h1 h2 h3=>H (j+1) U' (by simpa using h1) (by omega) h3)
theorem oV:∀ {os:List Oper} {us:List Upd} {ts:List ci} {s s':St},Run Γ T all s os us ts s'→∀ (i:Nat) (o:Oper),os[i]?=some o →
  ∃ U t,us[i]?=some U∧ts[i]?=some t∧iC Γ T all o (cN (fun j=>decide (j<i)) us s) U t
 |[],_,_,_,_,_,i,o,h=>by simp at h
 |o'::os,[],_,_,_,h,_,_,_=>h.elim
 |o'::os,_::_,[],_,_,h,_,_,_=>h.elim
 |o'::os,U::us,t::ts,s,s',h,0,o,hi=>by
  simp at hi
  subst hi
  exact⟨U,t,rfl,rfl,by rw[l5 (fun j=>by simp)];exact h.1⟩
 |o'::os,U::us,t::ts,s,s',h,i+1,o,hi=>by
  obtain⟨U',t',h1,h2,h3⟩:=oV h.2 i o (by simpa using hi)
  refine⟨U',t',by simpa using h1,by simpa using h2,?_⟩
  simp only[cN]
  have e:(fun j=>decide (j+1<i+1))=fun j=>decide (j<i):=by funext j;simp
  rw[e]
  simpa using h3
theorem s7:∀ {os:List Oper} {us:List Upd} {ts:List ci} {s s':St},Run Γ T all s os us ts s'→us.length=os.length∧ts.length=os.length∧s'=cN (fun _=>true) us s
 |[],[],[],_,_,h=>⟨rfl,rfl,h⟩
 |[],_::_,_,_,_,h=>h.elim
 |[],[],_::_,_,_,h=>h.elim
 |_::_,[],_,_,_,h=>h.elim
 |_::_,_::_,[],_,_,h=>h.elim
 |o::os,U::us,t::ts,s,s',h=>by
  obtain⟨h1,h2,h3⟩:=s7 h.2
  exact⟨by simp[h1],by simp[h2],by simpa[cN]using h3⟩
theorem oW {q:Nat}:∀ {os:List Oper} {us:List Upd} {ts:List ci} {sT s':St} {D:Nat→Bool} {F:Nat→Bool} {s sF:St} {B:Prop},Run Γ T all sT os us ts s'→(∀ (j:Nat) (t:ci),ts[j]?=some t→F j=decide (q∈t.wr)) →
  bA (s q)=bA (sF q)→(B→bA (sF q)=bA (sT q)) →
  (∀ (j:Nat) (t:ci) (U:Upd),ts[j]?=some t→us[j]?=some U→D j=true→q∉t.wr→q∈U.map (·.1)→B∧∀ (k:Nat) (t':ci),k<j→ts[k]?=some t'→q∈t'.wr→D k=true) →
  bA (cN D us s q)=bA (cN (fun j=>D j&&F j) us sF q)
 |[],[],[],_,_,_,_,_,_,_,_,_,h1,_,_=>h1
 |[],_::_,_,_,_,_,_,_,_,_,h,_,_,_,_=>h.elim
 |[],[],_::_,_,_,_,_,_,_,_,h,_,_,_,_=>h.elim
 |_::_,[],_,_,_,_,_,_,_,_,h,_,_,_,_=>h.elim
 |_::_,_::_,[],_,_,_,_,_,_,_,h,_,_,_,_=>h.elim
 |o::os,U::us,t::ts,sT,s',D,F,s,sF,B,h,hF,h1,h2,hcl=>by
  obtain⟨⟨⟨k1,k2,k3⟩,_⟩,hrun⟩:=h
  have hF0:=hF 0 t rfl
  simp only[cN]
  refine oW (F:=fun j=>F (j+1)) (B:=B∧(q∈t.wr→D 0=true)) hrun (fun j t' ht=>hF (j+1) t' (by simpa using ht)) ?_ ?_ ?_
  ·by_cases hq:q∈U.map (·.1)
   ·by_cases hw:q∈t.wr
    ·rw[hF0,decide_eq_true hw,Bool.and_true]
     cases D 0 with
     |true=>simp only[cond_true];rw[ib s sF hq]
     |false=>exact h1
    ·rw[hF0,decide_eq_false hw,Bool.and_false]
     simp only[cond_false]
     cases hD:D 0 with
     |true =>
      simp only[cond_true]
      rw[ib s sT hq,k3 q hq hw]
      exact (h2 (hcl 0 t U rfl rfl hD hw hq).1).symm
     |false=>exact h1
   ·have e:∀ (b:Bool) (x:St),(bif b then ab U x else x) q=x q:=by intro b x;cases b <;> simp[dZ _ hq]
    rw[e,e]
    exact h1
  ·rintro⟨hB,hD⟩
   by_cases hq:q∈U.map (·.1)
   ·by_cases hw:q∈t.wr
    ·rw[hF0,decide_eq_true hw,Bool.and_true,hD hw]
     simp only[cond_true]
     rw[ib sF sT hq]
    ·rw[hF0,decide_eq_false hw,Bool.and_false]
     simp only[cond_false]
     rw[k3 q hq hw]
     exact h2 hB
   ·have e:∀ (b:Bool) (x:St),(bif b then ab U x else x) q=x q:=by intro b x;cases b <;> simp[dZ _ hq]
    rw[e,dZ _ hq]
    exact h2 hB
  ·intro j t' U' ht hU hD hw hq
   obtain⟨g1,g2⟩:=hcl (j+1) t' U' (by simpa using ht) (by simpa using hU) hD hw hq
   exact⟨⟨g1,fun hw0=>g2 0 t (by omega) rfl hw0⟩,fun k t2 hk ht2 hw2=>g2 (k+1) t2 (by omega) (by simpa using ht2) hw2⟩
theorem pv {f:Nat→Nat}{i:Nat}:∀ (l:List Edge) (s:Nat),(l.foldl (fun s e=>bif Region.binds .any e then s ||| 2 ^ e.on ||| f e.on else s) s).testBit i=true →
  s.testBit i=true∨∃ e∈l,Region.binds .any e=true∧(i=e.on∨(f e.on).testBit i=true)
 |[],s,h=>.inl h
 |e::l,s,h=>by
  simp only[List.foldl_cons]at h
  rcases pv l _ h with h|⟨e',h1,h2⟩
  ·cases hb:Region.binds .any e with
   |false=>rw[hb]at h;exact .inl h
   |true =>
    rw[hb]at h
    simp only[cond_true,Nat.testBit_or,Bool.or_eq_true]at h
    rcases h with (h|h)|h
    ·exact .inl h
    ·refine .inr ⟨e,List.mem_cons_self ..,hb,.inl ?_⟩
     rw[Nat.testBit_two_pow]at h
     exact (of_decide_eq_true h).symm
    ·exact .inr ⟨e,List.mem_cons_self ..,hb,.inr h⟩
  ·exact .inr ⟨e',List.mem_cons_of_mem _ h1,h2⟩
theorem rE:∀ (os:List Oper) (acc:List Nat),(∀ j,j<acc.length→(iD os acc).getD j 0=acc.getD j 0) ∧
  ∀ (k:Nat) (o:Oper),os[k]?=some o→∃ acc':List Nat,acc'.length=acc.length+k∧(∀ j,j<acc'.length→acc'.getD j 0=(iD os acc).getD j 0) ∧
   (iD os acc).getD (acc.length+k) 0=o.after.toList.foldl (fun s e=>bif Region.binds .any e then s ||| 2 ^ e.on ||| acc'.getD e.on 0 else s) 0
 |[],acc=>⟨fun _ _=>rfl,fun k o h=>by simp at h⟩
 |o::os,acc=>by
  obtain⟨h1,h2⟩:=rE os (acc++[o.after.toList.foldl (fun s e=>bif Region.binds .any e then s ||| 2 ^ e.on ||| acc.getD e.on 0 else s) 0])
  have hpre:∀ j,j<acc.length→(iD (o::os) acc).getD j 0=acc.getD j 0:=by
   intro j hj
   simp only[iD]
   rw[h1 j (by simp;omega)]
   simp[List.getD_eq_getElem?_getD,List.getElem?_append_left hj]
  refine⟨hpre,fun k o' h=>?_⟩
  cases k with
  |zero =>
   simp at h
   subst h
   refine⟨acc,rfl,fun j hj=>(hpre j hj).symm,?_⟩
   simp only[iD]
   rw[Nat.add_zero,h1 acc.length (by simp)]
   simp[List.getD_eq_getElem?_getD]
  |succ k =>
   obtain⟨acc',h3,h4,h5⟩:=h2 k o' (by simpa using h)
   refine⟨acc',by simp at h3;omega,fun j hj=>h4 j hj,?_⟩
   simp only[iD]
   have e:acc.length+(k+1)=(acc++[o.after.toList.foldl (fun s e=>bif Region.binds .any e then s ||| 2 ^ e.on ||| acc.getD e.on 0 else s) 0]).length+k:=by simp;omega
   rw[e]
   exact h5
theorem is {ops:Array Oper}{D:Nat→Prop}(hcl:∀ (j:Nat) (o:Oper),ops[j]?=some o→D j→∀ e∈o.after.toList,Region.binds .any e=true→D e.on) :
  ∀ (n j:Nat),j<n→∀ (o:Oper),ops[j]?=some o→(∀ e∈o.after.toList,Region.binds .any e=true→D e.on)→∀ i,((iD ops.toList []).getD j 0).testBit i=true→D i
 |0,_,h,_,_,_,_,_=>by omega
 |n+1,j,hj,o,ho,he,i,hi=>by
  obtain⟨acc',h1,h2,h3⟩:=(rE ops.toList []).2 j o (by simpa using ho)
  simp only[List.length_nil,Nat.zero_add]at h1 h3
  rw[h3]at hi
  rcases pv (f:=fun k=>acc'.getD k 0) _ _ hi with h|⟨e,h4,h5,h6⟩
  ·simp at h
  ·rcases h6 with rfl|h6
   ·exact he e h4 h5
   ·have hlt:e.on<acc'.length:=by
     apply Classical.byContradiction
     intro hn
     have:acc'.getD e.on 0=0:=by
      rw[List.getD_eq_getElem?_getD,List.getElem?_eq_none (by omega)]
      rfl
     rw[this]at h6
     simp at h6
    rw[h2 _ hlt]at h6
    have hD:=he e h4 h5
    have hlt2:e.on<ops.size:=by
     have:=(Array.getElem?_eq_some_iff.1 ho).1
     omega
    exact is hcl n e.on (by omega) ops[e.on] (Array.getElem?_eq_getElem hlt2) (hcl e.on _ (Array.getElem?_eq_getElem hlt2) hD) i h6
theorem fe {a b:List Nat}(h:ky a b=false){q:Nat}(ha:q∈a):q∉b:=by
 intro hb
 unfold ky at h
 rw[List.any_eq_false]at h
 have:=h q ha
 simp only[List.any_eq_true,not_exists,not_and]at this
 exact this q hb (by simp)
theorem j9 {before:List Nat}{ts:List ci}(h:nM before ts=true){i j:Nat}(hij:i<j){x y:ci}(hx:ts[i]?=some x)(hy:ts[j]?=some y):(before.getD j 0).testBit i=true∨x.apart y=true:=by
 unfold nM at h
 rw[List.all_eq_true]at h
 have hj:=(List.getElem?_eq_some_iff.1 hy).1
 have h1:=h j (by simpa using hj)
 rw[List.all_eq_true]at h1
 have h2:=h1 i (by simpa using hij)
 simp only[hx,hy,Bool.or_eq_true]at h2
 exact h2
theorem oo {p p':Nat→Bool}{i:Nat}(hp:p i=true)(hp':p' i=false)(h:∀ j,j≠i→p' j=p j):∀ (l:List Nat),l.Nodup→i∈l→l.countP p'+1=l.countP p
 |[],_,hi=>by simp at hi
 |x::l,hn,hi=>by
  rw[List.nodup_cons]at hn
  by_cases hx:x=i
  ·subst hx
   have e:l.countP p'=l.countP p:=by
    apply List.countP_congr
    intro y hy
    rw[h y (fun e=>hn.1 (e ▸ hy))]
   simp[hp,hp',e]
  ·have ih:=oo hp hp' h l hn.2 ((List.mem_cons.1 hi).resolve_left (fun e=>hx e.symm))
   simp only[List.countP_cons,h x hx]
   omega
theorem xy (hV:ax V)(hT:TOk P T)(hΓ:∀ c∈Γ,af P c){ops:Array Oper}(hok:∀ (i:Nat) (o:Oper),ops[i]?=some o→bC V o)
  (hguard:∀ (i:Nat) (o:Oper),ops[i]?=some o→∀ j want,o.guard=some (j,want)→∀ s,(ops[j]?).bind (·.dst)=some s→s<V.nt) {Q:Exit→Act→World→Prop}
  {us:List Upd} {ts:List ci} {s0 s1:St} (hrun:Run Γ T ops s0 ops.toList us ts s1) (htext:mc ops=true) (hun:nM (iD ops.toList []) ts=true) (hQ:∀ a w,Rel P V s1 a w→Q .normal a w) :
  ∀ (fuel:Nat) (listed:Array Bool) (a:Act) (w:World),listed.size=ops.size→(List.range ops.size).countP (fun i=>!listed.getD i true)=fuel →
   (∀ (j:Nat) (o:Oper),ops[j]?=some o→listed.getD j false=true→∀ e∈o.after.toList,Region.binds .any e=true→listed.getD e.on false=true) →
   Rel P V (cN (fun j=>listed.getD j false) us s0) a w→wpAny P .any ops Q fuel listed a w:=by
 obtain⟨hul,htl,hend⟩:=s7 hrun
 have hsz:ops.toList.length=ops.size:=Array.length_toList
 have hready:∀ (listed:Array Bool),listed.size=ops.size→Region.ready .any ops listed=[]→∀ i,i<ops.size→listed.getD i false=true:=by
  intro listed hls hr i
  induction i using Nat.strongRecOn with
  |ind i ih =>
   intro hi
   cases hl:listed.getD i false with
   |true=>rfl
   |false =>
    exfalso
    have hl2:listed.getD i true=false:=by
     rw[Array.getD_eq_getD_getElem?,Array.getElem?_eq_getElem (by omega)]at hl ⊢
     exact hl
    have ho:ops[i]?=some ops[i]:=Array.getElem?_eq_getElem hi
    have hmem:i∈Region.ready .any ops listed:=by
     unfold Region.ready
     rw[List.mem_filter]
     refine⟨by simpa using hi,?_⟩
     rw[hl2,ho]
     simp only[Bool.not_false,Bool.true_and,Option.map_some,Option.getD_some]
     rw[Array.all_eq_true_iff_forall_mem]
     intro e he
     cases hbd:Region.binds .any e with
     |false=>rfl
     |true =>
      simp only[Bool.not_true,Bool.false_or]
      have hlt:e.on<i:=by
       unfold mc at htext
       rw[List.all_eq_true]at htext
       have:=htext i (by simpa using hi)
       simp only[ho]at this
       rw[List.all_eq_true]at this
       have:=this e (by simpa using he)
       simpa[hbd]using this
      exact ih e.on hlt (by omega)
    rw[hr]at hmem
    simp at hmem
 have hfin:∀ (listed:Array Bool) (a:Act) (w:World),listed.size=ops.size→Rel P V (cN (fun j=>listed.getD j false) us s0) a w→Region.ready .any ops listed=[]→Q .normal a w:=by
  intro listed a w hls hr hrd
  refine hQ a w ?_
  rw[hend]
  have:cN (fun _=>true) us s0=cN (fun j=>listed.getD j false) us s0:=kX (fun j hj=>(hready listed hls hrd j (by omega)).symm)
  rw[this]
  exact hr
 intro fuel
 induction fuel with
 |zero =>
  intro listed a w hls hcount hcl hr
  have hrd:Region.ready .any ops listed=[]:=by
   unfold Region.ready
   rw[List.filter_eq_nil_iff]
   intro i hi hc
   rw[List.countP_eq_zero]at hcount
   have:=hcount i hi
   simp only[Bool.and_eq_true]at hc
   exact this hc.1
  exact⟨hrd,hfin listed a w hls hr hrd⟩
 |succ fuel ih =>
  intro listed a w hls hcount hcl hr
  refine⟨hfin listed a w hls hr,fun i hi=>?_⟩
  unfold Region.ready at hi
  rw[List.mem_filter]at hi
  obtain⟨hin,hi2⟩:=hi
  have hin:i<ops.size:=by simpa using hin
  have ho:ops[i]?=some ops[i]:=Array.getElem?_eq_getElem hin
  rw[ho]at hi2
  simp only[Bool.and_eq_true,Bool.not_eq_true',Option.map_some,Option.getD_some]at hi2
  obtain⟨hunl,hedges⟩:=hi2
  rw[Array.all_eq_true_iff_forall_mem]at hedges
  have hunl2:listed.getD i false=false:=by
   rw[Array.getD_eq_getD_getElem?,Array.getElem?_eq_getElem (by omega)]at hunl ⊢
   exact hunl
  have hed:∀ e∈(ops[i]).after.toList,Region.binds .any e=true→listed.getD e.on false=true:=by
   intro e he hb
   have:=hedges e (by simpa using he)
   simpa[hb]using this
  obtain⟨U,t,hU,ht,hdone⟩:=oV hrun i ops[i] (by simp)
  have hcl':∀ (j:Nat) (o:Oper),ops[j]?=some o→(fun k=>listed.getD k false=true) j→∀ e∈o.after.toList,Region.binds .any e=true→(fun k=>listed.getD k false=true) e.on:=hcl
  obtain⟨hw1,_,_⟩:=hdone.1
  have hother:∀ (j:Nat) (U':Upd),us[j]?=some U'→∃ t',ts[j]?=some t'∧(∀ q∈U'.map (·.1),q∈t'.wr∨q∈t'.cw)∧∀ q∈t'.wr,q∈U'.map (·.1):=by
   intro j U' hj
   have hjl:j<ops.size:=by
    have:=(List.getElem?_eq_some_iff.1 hj).1
    omega
   obtain⟨U2,t2,h1,h2,h3⟩:=oV hrun j ops[j] (by simp[hjl])
   rw[hj]at h1
   cases h1
   exact⟨t2,h2,h3.1.1,h3.1.2.1⟩
  have hap:∀ (j:Nat) (U':Upd),us[j]?=some U'→j≠i→listed.getD j false≠decide (j<i)→∃ t',ts[j]?=some t'∧(∀ q∈U'.map (·.1),q∈t'.wr∨q∈t'.cw)∧(t'.apart t=true∨t.apart t'=true):=by
   intro j U' hj hne hdiff
   obtain⟨t',h1,h2,_⟩:=hother j U' hj
   refine⟨t',h1,h2,?_⟩
   rcases Nat.lt_or_gt_of_ne hne with hlt|hgt
   ·have hl:listed.getD j false=false:=by
     cases hl:listed.getD j false with
     |false=>rfl
     |true=>rw[hl]at hdiff;simp[hlt]at hdiff
    rcases j9 hun hlt h1 ht with h3|h3
    ·have:=is hcl' (i+1) i (Nat.lt_succ_self _) ops[i] ho hed j h3
     rw[hl]at this
     cases this
    ·exact .inl h3
   ·have hl:listed.getD j false=true:=by
     cases hl:listed.getD j false with
     |true=>rfl
     |false=>rw[hl]at hdiff;simp at hdiff;omega
    have hjl:j<ops.size:=by
     have:=(List.getElem?_eq_some_iff.1 hj).1
     omega
    have hoj:ops[j]?=some ops[j]:=Array.getElem?_eq_getElem hjl
    rcases j9 hun hgt ht h1 with h3|h3
    ·have:=is hcl' (j+1) j (Nat.lt_succ_self _) ops[j] hoj (hcl j _ hoj hl) i h3
     rw[hunl2]at this
     cases this
    ·exact .inr h3
  have hdis:∀ (x y:ci),x.apart y=true→(∀ q,q∈x.wr∨q∈x.cw→(q∉y.wr∧q∉y.cw)∧q∉y.rd)∧(∀ q,q∈y.wr∨q∈y.cw→(q∉x.wr∧q∉x.cw)∧q∉x.rd)∧(∀ q∈x.wr,q∉y.hd)∧∀ q∈y.wr,q∉x.hd:=by
   intro x y h
   unfold ci.apart at h
   simp only[Bool.and_eq_true,Bool.not_eq_true']at h
   obtain⟨⟨⟨⟨h1,h2⟩,h3⟩,h4⟩,h5⟩:=h
   refine⟨fun q hq=>?_,fun q hq=>?_,fun q hq=>fe h4 hq,fun q hq hx=>fe h5 hx hq⟩
   ·have hq:=List.mem_append.2 hq
    have:=fe h1 hq
    simp only[List.mem_append,not_or]at this
    exact⟨this,fe h2 hq⟩
   ·have hq:=List.mem_append.2 hq
    have:q∉x.wr++x.cw:=fun hx=>fe h1 hx hq
    simp only[List.mem_append,not_or]at this
    exact⟨this,fun hx=>fe h3 hx hq⟩
  have hnot:∀ (j:Nat) (U':Upd),us[j]?=some U'→j≠i→listed.getD j false≠decide (j<i)→∀ q∈U'.map (·.1),(q∉t.wr∧q∉t.cw)∧q∉t.rd:=by
   intro j U' hj hne hdiff q hq
   obtain⟨t',_,h1,h2⟩:=hap j U' hj hne hdiff
   rcases h2 with h2|h2
   ·exact (hdis _ _ h2).1 q (h1 q hq)
   ·exact (hdis _ _ h2).2.1 q (h1 q hq)
  have hnoth:∀ (j:Nat) (t':ci),ts[j]?=some t'→j≠i→listed.getD j false≠decide (j<i)→∀ q∈t'.wr,q∉t.hd:=by
   intro j t' hj hne hdiff q hq
   have hjl:j<us.length:=by
    have:=(List.getElem?_eq_some_iff.1 hj).1
    omega
   obtain⟨t2,h0,_,h2⟩:=hap j us[j] (List.getElem?_eq_getElem hjl) hne hdiff
   rw[hj]at h0
   cases h0
   rcases h2 with h2|h2
   ·exact (hdis _ _ h2).2.2.1 q hq
   ·exact (hdis _ _ h2).2.2.2 q hq
  have hres:kW Γ T ops ops[i] (cN (fun j=>listed.getD j false) us s0) U:=by
   refine hdone.frame (fun q hq=>?_) (fun q hq=>?_)
   ·refine kY rfl fun j U' hj hqj=>?_
    by_cases hji:j=i
    ·subst hji
     rw[hunl2]
     simp
    ·apply Classical.byContradiction
     intro hdiff
     have:=hnot j U' hj hji hdiff q hqj
     rcases hq with hq|hq
     ·exact this.2 hq
     ·exact this.1.1 hq
   ·have hFF:∀ (j:Nat) (t':ci),ts[j]?=some t'→(fun j=>match ts[j]? with|some t'=>decide (q∈t'.wr)|none=>false) j=decide (q∈t'.wr):=fun j t' h=>by simp only[h]
    have e1:=oW (q:=q) (D:=fun j=>listed.getD j false) (F:=fun j=>match ts[j]? with|some t'=>decide (q∈t'.wr)|none=>false) (s:=s0) (sF:=s0) (B:=True) hrun hFF rfl (fun _=>rfl) (fun j t' U' hj hU hD hw hqk=>by
     refine⟨trivial,fun k t2 hk ht2 hw2=>?_⟩
     obtain⟨t3,h3,h4,_⟩:=hother j U' hU
     rw[hj]at h3
     cases h3
     have hcw:=(h4 q hqk).resolve_left hw
     have hjl:j<ops.size:=by
      have:=(List.getElem?_eq_some_iff.1 hU).1
      omega
     have hoj:ops[j]?=some ops[j]:=Array.getElem?_eq_getElem hjl
     rcases j9 hun hk ht2 hj with h5|h5
     ·exact is hcl' (j+1) j (Nat.lt_succ_self _) ops[j] hoj (hcl j _ hoj hD) k h5
     ·exact absurd hcw ((hdis _ _ h5).1 q (.inl hw2)).1.2)
    have e2:=oW (q:=q) (D:=fun j=>decide (j<i)) (F:=fun j=>match ts[j]? with|some t'=>decide (q∈t'.wr)|none=>false) (s:=s0) (sF:=s0) (B:=True) hrun hFF rfl (fun _=>rfl) (fun j t' U' hj hU hD hw hqk=>by
     refine⟨trivial,fun k t2 hk ht2 hw2=>?_⟩
     have:=of_decide_eq_true hD
     exact decide_eq_true (by omega))
    rw[e1,e2]
    congr 1
    refine kY rfl fun j U' hj hqj=>?_
    obtain⟨t',h1,h2,_⟩:=hother j U' hj
    simp only[h1]
    by_cases hw:q∈t'.wr
    ·rw[decide_eq_true hw,Bool.and_true,Bool.and_true]
     by_cases hji:j=i
     ·subst hji
      rw[hunl2]
      simp
     ·apply Classical.byContradiction
      intro hdiff
      exact hnoth j t' h1 hji hdiff q hw hq
    ·rw[decide_eq_false hw,Bool.and_false,Bool.and_false]
  refine ub hV hT hΓ ho (hok i _ ho) (hguard i _ ho) hres hr fun a' w' hr'=>?_
  have hset:∀ (b:Bool) (j:Nat),(listed.setIfInBounds i true).getD j b=if j=i then true else listed.getD j b:=by
   intro b j
   simp only[Array.getD_eq_getD_getElem?,Array.getElem?_setIfInBounds]
   by_cases hji:j=i
   ·subst hji
    simp[hls,hin]
   ·rw[if_neg (fun e=>hji e.symm),if_neg hji]
  refine ih _ a' w' (by simpa using hls) ?_ ?_ ?_
  ·have:=oo (p:=fun j=>!listed.getD j true) (p':=fun j=>!(listed.setIfInBounds i true).getD j true) (i:=i) (by simp[hunl]) (by simp[hset]) (fun j hj=>by simp[hset,hj]) (List.range ops.size) List.nodup_range (by simpa using hin)
   omega
  ·intro j o' hj hlj e he hb
   rw[hset]at hlj ⊢
   by_cases hei:e.on=i
   ·rw[if_pos hei]
   ·rw[if_neg hei]
    by_cases hji:j=i
    ·subst hji
     rw[ho]at hj
     cases hj
     exact hed e he hb
    ·rw[if_neg hji]at hlj
     exact hcl j o' hj hlj e he hb
  ·have hins:=mT (U:=U) (us:=us) (i:=i) (D:=fun j=>listed.getD j false) (D':=fun j=>(listed.setIfInBounds i true).getD j false) (s:=s0) hU hunl2 (fun j=>by
     simp only[hset]
     by_cases hji:j=i
     ·subst hji;simp
     ·have:Nat.beq j i=false:=by
       cases hb:Nat.beq j i with
       |false=>rfl
       |true=>exact absurd (Nat.eq_of_beq_eq_true hb) hji
      simp[hji,this])
    (fun j U' hj hij hD q hq hq'=>by
     have:=hnot j U' hj (by omega) (by rw[hD];simp;omega) q hq'
     exact (hw1 q hq).elim this.1.1 this.1.2)
   rw[hins]
   exact hr'
theorem xz (hV:ax V)(hT:TOk P T)(hΓ:∀ c∈Γ,af P c)(hmix:P.follows .mixedOrders=true){id:Nat}{ops:Array Oper}{draw:Bool}(hok:∀ (i:Nat) (o:Oper),ops[i]?=some o→bC V o)
  (hguard:∀ (i:Nat) (o:Oper),ops[i]?=some o→∀ j want,o.guard=some (j,want)→∀ s,(ops[j]?).bind (·.dst)=some s→s<V.nt) {Q:Exit→Act→World→Prop} {κ:St→Option R} {r:R}
  (h:regK Γ T ops draw st κ=some r) (hκ:∀ s1,κ s1=some r→∀ a w,Rel P V s1 a w→Q .normal a w) {a:Act} {w:World} (hr:Rel P V st a w):(Code.region id ops draw).wp P Q a w:=by
 unfold regK at h
 cases draw with
 |true =>
  simp only[cond_true]at h
  obtain⟨us,ts,s1,hrun,h2⟩:=nG _ _ _ _ _ h
  simp only[List.nil_append]at h2
  cases hb:mc ops&&nM (iD ops.toList []) ts with
  |false=>simp[hb]at h2
  |true =>
   simp only[hb,cond_true]at h2
   simp only[Bool.and_eq_true]at hb
   refine wp_region_any hmix ?_
   have hD:∀ j,(Array.replicate ops.size false).getD j false=false:=by
    intro j
    simp only[Array.getD_eq_getD_getElem?,Array.getElem?_replicate]
    split <;> rfl
   refine xy hV hT hΓ hok hguard hrun hb.1 hb.2 (hκ s1 h2) ops.size (Array.replicate ops.size false) a _ (by simp) ?_ ?_ ?_
   ·rw[List.countP_eq_length.2]
    ·simp
    ·intro i hi
     have hi:i<ops.size:=by simpa using hi
     simp[Array.getD_eq_getD_getElem?,Array.getElem?_replicate,hi]
   ·intro j o' _ hl
    rw[hD]at hl
    cases hl
   ·rw[l5 (fun j=>hD j)]
    obtain⟨W,hr⟩:=hr
    exact⟨W,hr.world hV (w':={ w with drawn:=w.drawn+1 }) (Nat.le_refl _) rfl rfl rfl (fun _ _=>rfl)⟩
 |false =>
  simp only[cond_false]at h
  obtain⟨us,ts,s1,hrun,h2⟩:=nG _ _ _ _ _ h
  refine wp_region ?_
  have:=sZ hV hT hΓ hok hguard ops.toList 0 st us ts s1 (by simp) hrun (hκ s1 h2) a w hr
  rw[Array.length_toList,← List.range_eq_range']at this
  exact this
end
end Go.Proofs.YthgnfidnmnkeaaaGreatEv
