/- One operation: append. -/
import Derived.Test.YtmcbmojdeikcdaaGreatE3
namespace Go.Proofs.YtmcbmojdeikcdaaGreatEv
open Go Go.RowKit
theorem pX {w:World}{α:Type}{s g:Nat}:∀ (ys:List α) (o:Nat) (Q:Nat->α->List Value->Prop),(∀ j x c,Q j x c->c.length=s/\∀ u∈c,u.oneCell'=true)->(∀ (j:Nat) (x:α),ys[j]?=some x->∃ c,Q j x c/\cE w g (o+j*s) c) ->
  ∃ news:List Value,news.length=ys.length*s/\(∀ j u,news[j]?=some u->w.cell? ⟨g,o+j,none⟩=some u)/\(∀ u∈news,u.oneCell'=true) /\
   ∀ (j:Nat) (x:α),ys[j]?=some x->∃ c,Q j x c/\∀ i u,c[i]?=some u->news[j*s+i]?=some u
 |[],o,_,_,_=>⟨[],by simp,by simp,by simp,by simp⟩
 |y::ys,o,Q,hQ,h=>by
  obtain⟨c,hr,hc⟩:=h 0 y rfl;obtain⟨news,h1,h2,h3,h4⟩:=pX ys (o+s) (λj=>Q (j+1)) (λj=>hQ (j+1)) (λj x hj=>by
   obtain⟨c',hr',hc'⟩:=h (j+1) x (by simpa using hj);refine⟨c',hr',?_⟩;rw[Nat.succ_mul]at hc';have:o+s+j*s=o+(j*s+s):=by omega
   rw[this];exact hc')
  obtain⟨hcl,hco⟩:=hQ 0 y c hr;refine⟨c++news,by rw[List.length_append,h1,hcl,List.length_cons,Nat.succ_mul];omega,?_,?_,?_⟩
  ·intro j u hj;by_cases hlt:j<c.length
   ·rw[List.getElem?_append_left hlt]at hj;have:=hc j u hj
    rwa [Nat.zero_mul,Nat.add_zero]at this
   ·rw[List.getElem?_append_right (by omega)]at hj;have:=h2 (j-c.length) u hj;have e1:o+s+(j-c.length)=o+j:=by omega
    rwa [e1]at this
  ·intro u hu;rcases List.mem_append.1 hu with hu|hu
   ·exact hco u hu
   ·exact h3 u hu
  ·intro j x hj;cases j with
   |zero =>
    simp at hj;subst hj;refine⟨c,hr,λi u hi=>?_⟩;have hil:=(List.getElem?_eq_some_iff.1 hi).1;rw[Nat.zero_mul,Nat.zero_add,List.getElem?_append_left hil];exact hi
   |succ j =>
    obtain⟨c',hr',hc'⟩:=h4 j x (by simpa using hj);refine⟨c',hr',λi u hi=>?_⟩;rw[Nat.succ_mul,List.getElem?_append_right (by omega)];rw[<- hc' i u hi];congr 1;omega
theorem pn {P:Program}(w:World)(t ty e:TypeId)(i:TypeInfo)(z:Value)(size bytes:Nat)(ht:P.underlying t=some (.slice e))(hi:P.info? e=some i)(hz:i.zero=some z)
  (hsize:i.size=size) (hby:i.bytes=bytes) (hzs:z.cells.size=size)
  (v:Value) (n:Nat) (xs:List Value) (hown:Row w e size v n xs)
  (a:Addr) (m c:Nat) (news:List Value) (hl:news.length=m*size) (hnews:∀ j u,news[j]?=some u->w.cell? (a.add j)=some u) (h1:∀ u∈news,u.oneCell'=true)
  (h63:n+m<=maxLen) (hbytes:(n+m)*bytes<=140737488355328) :
  ∃ v' w',(Builtin.append_ #[t,t] ty #[v,.slice (some a) m c]).run P w=.ok v' w'/\Row w' e size v' (n+m) (xs++news)/\w.grownBy w' v.ownBlock/\(v'.ownBlock=v.ownBlock\/v'.ownBlock=some w.heap.size):=by
 subst hsize;subst hby;have hsmall:n+m<=9223372036854775807:=by simp only[maxLen]at h63;omega
 have hlen:(xs++news).length=(n+m)*i.size:=by rw[List.length_append,hown.1,hl,Nat.add_mul]
 have grown:∀ (old:Nat),old<n+m->∀ (row:Option Nat),
   Row (w.drew.alloc (.cells (xs.toArray++news.toArray++Builtin.zeroCells z.cells (grownCap w (n+m) old e-(n+m))) e)) e i.size
    (.slice (some ⟨w.heap.size,0,none⟩) (n+m) (grownCap w (n+m) old e)) (n+m) (xs++news) /\
   w.grownBy (w.drew.alloc (.cells (xs.toArray++news.toArray++Builtin.zeroCells z.cells (grownCap w (n+m) old e-(n+m))) e)) row:=by
  intro old ho row;have hge:=grownCap_ge w (n+m) old e;have hcm:grownCap w (n+m) old e<=maxLen:=grownCap_le_maxLen w (n+m) old e h63;refine⟨⟨hlen,.inr ⟨w.heap.size,_,_,rfl,heap_alloc_new w.drew _,hge,hcm,?_,?_⟩⟩,⟨rfl,rfl,rfl,by simp,λk hk _=>Go.heap_alloc_old w.drew _ hk⟩⟩
  ·simp only[Array.size_append,List.size_toArray,size_zeroCells,hzs,hown.1,hl,<- Nat.add_mul];exact Nat.mul_le_mul_right _ (by omega)
  ·simp only[Array.toList_append,List.append_assoc];rw[<- List.append_assoc,<- hlen];exact List.take_left
 rcases hown.2 with ⟨rfl,rfl⟩|⟨g,cap,cur,rfl,hg,hnc,hcm,hcs,htake⟩
 ·have hx:xs=[]:=List.eq_nil_of_length_eq_zero (by simpa using hown.1);subst hx;by_cases hm:m=0
  ·subst hm;have hn:news=[]:=List.eq_nil_of_length_eq_zero (by simpa using hl);subst hn;refine⟨.slice none 0 0,w,?_,Row.nil w e i.size,⟨rfl,rfl,rfl,Nat.le_refl _,λ_ _ _=>rfl⟩,.inl rfl⟩;simp[Builtin.append_,run_underlying ht,sizeOf,typeInfo,hi,Builtin.lenOf,Builtin.firstCells,loadCells,loadCellsFrom]
  ·have hr:=run_append_nil (P:=P) w t ty e i z ht hi hz a m c news hl hnews (by omega) (by omega) (by have hb:=hbytes;simp only[Nat.zero_add]at hb;omega);have hgr:=grown 0 (by omega) (Value.ownBlock (.slice none 0 0));simp only[Nat.zero_add,List.nil_append,Array.empty_append]at hgr ⊢;exact⟨_,_,hr,hgr.1,hgr.2,.inr rfl⟩
 ·by_cases hroom:n+m<=cap
  ·have hfit:n*i.size+news.length<=cur.size:=by rw[hl,<- Nat.add_mul];exact Nat.le_trans (Nat.mul_le_mul_right _ hroom) hcs
   have hr:=run_append_room (P:=P) w t ty e i ht hi g n cap cur hg a m c news hl hnews h1 hroom hfit;refine⟨_,_,hr,⟨hlen,.inr ⟨g,cap,_,rfl,setRow_heap w g cur _ e _ hg,hroom,hcm,?_,?_⟩⟩,⟨rfl,rfl,rfl,by simp,λk _ hk=>setRow_other w g k _ (λe=>hk (by simp[Value.ownBlock,e]))⟩,.inl rfl⟩
   ·simp only[List.size_toArray,List.length_append,List.length_take,List.length_drop,Array.length_toList];omega
   ·rw[htake,<- hlen];exact List.take_left
  ·have holds:∀ j u,xs[j]?=some u->w.cell? ((⟨g,0,none⟩:Addr).add j)=some u:=λj u hj=>by
    rw[er,Nat.zero_add,hown.cellAt _ (by rw[<- hown.1];exact (List.getElem?_eq_some_iff.1 hj).1)];exact hj
   have hr:=run_append_grow (P:=P) w t ty e i z ht hi hz ⟨g,0,none⟩ n cap xs hown.1 holds a m c news hl hnews (by omega) (by omega) (growslice_fits (by omega) hbytes);have hgr:=grown cap (by omega) (Value.ownBlock (.slice (some ⟨g,0,none⟩) n cap));exact⟨_,_,hr,hgr.1,hgr.2,.inr rfl⟩
theorem lP {P:Program}(w:World)(t ty e:TypeId)(i:TypeInfo)(size c:Nat)(ht:P.underlying t=some (.slice e))(hi:P.info? e=some i)
  (v:Value) (n:Nat) (xs:List Value) (hown:Row w e size v n xs) :
  (Builtin.append_ #[t,t] ty #[v,.slice none 0 c]).run P w=.ok v w:=by
 rcases hown.2 with ⟨rfl,rfl⟩|⟨g,cap,cur,rfl,_,hnc,_⟩
 ·simp[Builtin.append_,run_underlying ht,sizeOf,typeInfo,hi,Builtin.lenOf,Builtin.firstCells]
 ·simp[Builtin.append_,run_underlying ht,sizeOf,typeInfo,hi,Builtin.lenOf,Builtin.firstCells,hnc,storeCells]
theorem ic {α:Type}{f g:α->List Nat}:∀ {l:List α},(∀ x∈l,f x=g x)->l.flatMap f=l.flatMap g
 |[],_=>rfl
 |x::l,h=>by rw[List.flatMap_cons,List.flatMap_cons,h x (List.mem_cons_self ..),ic (λy hy=>h y (List.mem_cons_of_mem _ hy))]
theorem xa (n m:Nat)(f g:Nat->List Nat):(List.range (n+m)).flatMap (λj=>if j<n then f j else g (j-n))=(List.range n).flatMap f++(List.range m).flatMap g:=by
 rw[List.range_add,List.flatMap_append,List.flatMap_map];congr 1
 ·refine ic λj hj=>?_
  rw[if_pos (List.mem_range.1 hj)]
 ·refine ic λj _=>?_
  rw[if_neg (by omega),show n+j-n=j by omega]
def ul (w:World)(G:Nat->Prop)(e:Ty)(ys:List e.den)(u:Value)(bss:Nat->List Nat):Prop :=
 ∃ A cap,u=.slice A ys.length cap/\(0<ys.length->∃ g o,A=some ⟨g,o,none⟩/\∀ j (x:e.den),ys[j]?=some x->∃ c,Mx w G e none 0 x c (bss j)/\cE w g (o+j*e.cells) c)
section
variable {P:Program} {V:Env} {Γ:List Ctr} {T:TypeId->TI} {st:St} {o:Oper} {R:Type} {κ:Upd->Option R} {r:R}
theorem um {w:World}{t ty E:TypeId}{e e':Ty}{bytes:Nat}(hti:nv P t (.slice E e bytes))(hsh:e'.cells=e.cells){G G2 G':Nat->Prop}{xs ys:List e'.den}{v u:Value}{bs:List Nat}{bsy:Nat->List Nat}(hx:Ow w G E e' xs v bs)
  (hy:ul w G2 e' ys u bsy) (hsz:(xs.length+ys.length)*bytes<=ah) (hG:∀ k,G k->G' k) (hG2:∀ k,G2 k->G' k) (hG':∀ k,G' k->k<w.heap.size/\v.ownBlock≠some k) (hby:∀ j,j<ys.length->∀ k∈bsy j,v.ownBlock≠some k) :
  ∃ v' w' bs',(Builtin.append_ #[t,t] ty #[v,u]).run P w=.ok v' w'/\w.grownBy w' v.ownBlock/\OwB w' G' none E e' (xs++ys) v' bs' /\
   ∀ k,bs'.count k<=bs.count k+(((List.range ys.length).flatMap bsy)++[w.heap.size]).count k:=by
 obtain⟨hu,_,_,hcp,hbp,ti,z,hi,hs,hb,hz,hzc⟩:=hti;obtain⟨hnd,flat,bss,ho,hbs,hfl⟩:=hx;obtain⟨A,cap,hu',hel⟩:=hy;subst hu';have hs':ti.size=e'.cells:=by rw[hsh];exact hs
 have hcar:∀ (w':World),w.grownBy w' v.ownBlock->∀ k,G' k->w'.heap[k]?=w.heap[k]?:=λw' hg k hk=>hg.block k (hG' k hk).1 (Ne.symm (hG' k hk).2)
 have hml:xs.length+ys.length<=maxLen:=by
  have h1:(xs.length+ys.length)*1<=(xs.length+ys.length)*bytes:=Nat.mul_le_mul_left _ hbp.1;have:=k8;simp only[ah]at hsz;omega
 have fin:∀ (news:List Value),(∀ (j:Nat) (x:e'.den),ys[j]?=some x->∃ c,Mx w G2 e' none 0 x c (bsy j)/\∀ i u,c[i]?=some u->news[j*e'.cells+i]?=some u) ->
   ∀ v' w',Row w' E e'.cells v' (xs.length+ys.length) (flat++news)->w.grownBy w' v.ownBlock->(v'.ownBlock=v.ownBlock\/v'.ownBlock=some w.heap.size) ->
    ∃ bs',OwB w' G' none E e' (xs++ys) v' bs'/\∀ k,bs'.count k<=bs.count k+(((List.range ys.length).flatMap bsy)++[w.heap.size]).count k:=by
  intro news hn v' w' how hg hat;refine⟨v'.ownBlock.toList++(List.range (xs.length+ys.length)).flatMap (λj=>if j<xs.length then bss j else bsy (j-xs.length)),⟨flat++news,_,by rw[List.length_append];exact how,by rw[List.length_append],λj x hj=>?_⟩,λk=>?_⟩
  ·by_cases hlt:j<xs.length
   ·rw[List.getElem?_append_left hlt]at hj;obtain⟨c,hr,hc⟩:=hfl j x hj;have hr:Mx w G e' none 0 x c (bss j):=hr;refine⟨c,?_,λi u hi=>?_⟩
    ·rw[if_pos hlt];refine hr.carry hG (λk hk=>hcar w' hg k (hG k hk)) λk hk=>hg.block k (hr.lt k hk) (λe0=>?_)
     have h5:=bz.1 hnd k;rw[hbs,<- e0,List.count_append]at h5;have h6:0<((List.range xs.length).flatMap bss).count k:=List.count_pos_iff.2 (dT.2 ⟨j,hlt,hk⟩);simp at h5;omega
    ·have:=hc i u hi;rw[List.getElem?_append_left (List.getElem?_eq_some_iff.1 this).1];exact this
   ·rw[List.getElem?_append_right (by omega)]at hj;obtain⟨c,hr,hc⟩:=hn _ x hj;have hjl:=(List.getElem?_eq_some_iff.1 hj).1;refine⟨c,?_,λi u hi=>?_⟩
    ·rw[if_neg hlt];exact hr.carry hG2 (λk hk=>hcar w' hg k (hG2 k hk)) λk hk=>hg.block k (hr.lt k hk) (Ne.symm (hby _ hjl k hk))
    ·have:=hc i u hi;have hfll:=ho.1;have hge:xs.length*e'.cells<=j*e'.cells:=Nat.mul_le_mul_right _ (Nat.le_of_not_lt hlt);rw[List.getElem?_append_right (by omega),<- this,hfll,Nat.sub_mul];congr 1;omega
  ·rw[xa,hbs];simp only[List.count_append];rcases hat with h5|h5
   ·rw[h5];omega
   ·rw[h5];simp only[Option.toList_some];omega
 cases A with
 |none =>
  have hy0:ys.length=0:=by
   rcases Nat.eq_zero_or_pos ys.length with h|h
   ·exact h
   ·obtain⟨g,o,hA,_⟩:=hel h;cases hA
  have hy0:=List.eq_nil_of_length_eq_zero hy0;subst hy0;have hrun:=lP (P:=P) w t ty E ti e'.cells cap hu hi v xs.length flat ho;have hg:w.grownBy w v.ownBlock:=⟨rfl,rfl,rfl,Nat.le_refl _,λ_ _ _=>rfl⟩;obtain⟨bs',h1,h2⟩:=fin [] (by simp) v w (by simpa using ho) hg (.inl rfl);exact⟨v,w,bs',hrun,hg,h1,h2⟩
 |some ad =>
  have hex:∃ news:List Value,news.length=ys.length*e'.cells/\(∀ j u,news[j]?=some u->w.cell? (ad.add j)=some u)/\(∀ u∈news,u.oneCell'=true) /\
    ∀ (j:Nat) (x:e'.den),ys[j]?=some x->∃ c,Mx w G2 e' none 0 x c (bsy j)/\∀ i u,c[i]?=some u->news[j*e'.cells+i]?=some u:=by
   rcases Nat.eq_zero_or_pos ys.length with h|h
   ·have hy0:=List.eq_nil_of_length_eq_zero h;subst hy0;exact⟨[],by simp,by simp,by simp,by simp⟩
   ·obtain⟨g,o,hA,he⟩:=hel h;simp at hA;subst hA;obtain⟨news,h1,h2,h3,h4⟩:=pX ys o (λj x c=>Mx w G2 e' none 0 x c (bsy j)) (λj x c hq=>⟨hq.len,hq.one⟩) he;exact⟨news,h1,λj u hj=>by rw[er];exact h2 j u hj,h3,h4⟩
  obtain⟨news,h1,h2,h3,h4⟩:=hex;have hzs:z.cells.size=e'.cells:=by
   have h2:=(kw w (λ_=>False) e).len;rw[<- Array.length_toList,hzc,h2,hsh]
  obtain⟨v',w',hrun,how,hg,hat⟩:=pn (P:=P) w t ty E ti z e'.cells bytes hu hi hz hs' hb hzs v xs.length flat ho ad ys.length cap news h1 h2 h3 hml (by simpa[ah]using hsz);obtain⟨bs',h5,h6⟩:=fin news h4 v' w' how hg hat;exact⟨v',w',bs',hrun,hg,h5,h6⟩
theorem un {W:Wit}{a:Act}{w:World}(h:ao P V W st a w){E:TypeId}{e:Ty}{y:Leaf}{u:Value}{t:cq (List e.den)}(hl:aC P V W st w [y] [u])(ht:e8 st E e y=some t) :
  (∃ bsy,ul w (bi V W t.p t.frz) e t.val u bsy/\∀ k,((List.range t.val.length).flatMap bsy).count k<=(aU W t.kill).count k)/\(∀ x∈t.frz,aB st x)/\(∀ x∈t.kill,aB st x):=by
 have shared:∀ {p q:Bool} {xs:List e.den} {ks:List (Nat×Nat)},cG e (aD st y)=some (p,xs)->(∀ (S:Nat->Prop) (x:e.den) (c:List Value),Rd w (bi V W p (bq st [y])) e x c->Mx w (bi V W q ks) e none 0 x c []) ->
   ∃ bsy,ul w (bi V W q ks) e xs u bsy/\∀ k,((List.range xs.length).flatMap bsy).count k<=(aU W []).count k:=by
  intro p q xs ks ha hm;obtain⟨A,cap,hu,_,hx⟩:=jN (m:=false) (E:=E) h hl.1.1 hl.1.2.1 ha;have hu:u=.slice A xs.length cap:=by simpa using hu
  refine⟨(λ_=>[]:Nat->List Nat),⟨A,cap,hu,λhp=>?_⟩,λk=>by rw[show ((List.range xs.length).flatMap λ_=>([]:List Nat))=[] from by simp];exact Nat.zero_le _⟩;obtain⟨g,o',hA,_,hel⟩:=hx hp;exact⟨g,o',hA,λj x hj=>by
   obtain⟨c,hr,hc⟩:=hel j x hj;exact⟨c,hm (λ_=>True) x c hr,hc⟩⟩
 unfold e8 at ht;cases hf:e.flat with
 |true =>
  rw[hf]at ht;simp only[cond_true,Option.map_eq_some_iff]at ht;obtain⟨⟨p,xs⟩,ha,rfl⟩:=ht;exact⟨shared ha (λ_ x c hr=>Mx.flat hf hr),by simp,by simp⟩
 |false =>
  rw[hf]at ht;simp only[cond_false]at ht;cases hs:decide (e.sh=e) with
  |true =>
   rw[hs]at ht;simp only[cond_true,Option.map_eq_some_iff]at ht;obtain⟨⟨p,xs⟩,ha,rfl⟩:=ht;exact⟨shared ha (λ_ x c hr=>Mx.shared (of_decide_eq_true hs) hr),λx hx=>dK hl hx,by simp⟩
  |false =>
   rw[hs]at ht;simp only[cond_false,Option.map_eq_some_iff]at ht;obtain⟨t',ha,rfl⟩:=ht;obtain⟨h1,h2,h3⟩:=dn (pos:=0) h hl ha;have h1:Mx w (bi V W t'.p t'.frz) (.list true E e) none 0 t'.val [u] (aU W t'.kill):=h1;rw[ch (by simp)]at h1;obtain⟨v,hv,flat,bss,h4,h5,h6⟩:=h1;simp only[List.cons.injEq,and_true]at hv;subst hv;refine⟨⟨bss,?_,λk=>?_⟩,h2,h3⟩
   ·rcases h4.2 with ⟨hn,h0⟩|⟨g,cap,cur,hv,hg,hnc,_⟩
    ·exact⟨none,0,by rw[hn];show _=Value.slice none (List.length t'.val) 0;rw[h0],λhp=>by have hp:0<List.length t'.val:=hp;omega⟩
    ·refine⟨some ⟨g,0,none⟩,cap,hv,λhp=>⟨g,0,rfl,λj x hj=>?_⟩⟩;obtain⟨c,h7,h8⟩:=h6 j x hj;have h7:Mx w (bi V W t'.p t'.frz) e none 0 x c (bss j):=h7;refine⟨c,h7,λi u hi=>?_⟩;have h9:=h8 i u hi;rw[Nat.zero_add];rw[hv]at h4;rw[h4.cellAt _ (by rw[<- h4.1];exact (List.getElem?_eq_some_iff.1 h9).1)];exact h9
   ·show ((List.range (List.length t'.val)).flatMap bss).count k<=(aU W t'.kill).count k;rw[h5,List.count_append];omega
theorem yu {l l':Leaf}{U:Upd}(hn:ca st l=some (U,l')):∃ n,l'=.al TMP 0 n:=by
 cases l with
 |nal p ks ep loc E e xs =>
  simp only[ca]at hn;cases hvk:bj st ks ep with
  |false=>simp[hvk]at hn
  |true =>
   rw[hvk]at hn;simp only[cond_true]at hn;split at hn
   ·rename_i r j n0 i sz off;split at hn
    ·rename_i p' E' e' xs' hg;cases hb:!Nat.beq r TMP&&!Nat.beq r EPO&&Nat.beq sz e'.cells with
     |false=>simp[hb]at hn
     |true =>
      rw[hb]at hn;simp only[cond_true]at hn;split at hn
      ·split at hn
       ·simp only[Option.some.injEq,Prod.mk.injEq]at hn;exact⟨_,hn.2.symm⟩
       ·cases hn
      ·cases hn
    ·cases hn
   ·cases hn
 |_=>simp[ca]at hn
theorem uo (hV:ax V)(hT:TOk P T)(hok:bF V o){c:Call}(hop:o.op=.call c)(hc:c.callee=.builtin .append)(h:act Γ T o st κ=some r):bP P V o st κ r:=by
  simp only[act,wrU,hop,hc]at h;split at h
  · cases h
  · rename_i d hd
    split at h
    · rename_i x y t u hargs htys
      split at h
      · rename_i E e bytes ht
        cases htu:Nat.beq t u with
        |false=>simp[htu]at h
        |true =>
          simp only[htu,cond_true]at h;have htu:=Nat.eq_of_beq_eq_true htu;subst htu;have hti:=hT t;rw[ht]at hti;have hargs:c.args=#[x,y]:=by rw[<- Array.toArray_toList (xs:=c.args),hargs]
          have htys:c.argTypes=#[t,t]:=by rw[<- Array.toArray_toList (xs:=c.argTypes),htys]
          have hexec:∀ (a:Act) (w w':World) (v:Value),(Builtin.append_ #[t,t] o.type #[a.eval x,a.eval y]).run P w=.ok v w'->(execOp a.eval o).run P w=.ok (.value v) w':=by
            intro a w w' v hr;simp[execOp,hop,hc,resolve,invoke,builtin,hargs,htys,hr]
          have fin:∀ (U0:Upd) (E':TypeId) (e':Ty) (p:Bool) (xs:List e'.den) (ks:List (Nat×Nat)),E'=E->e'.sh=e.sh->dx st (ac U0 st) U0 d E' e' bytes p xs ks (one st y) κ=some r ->
              ∃ U,κ U=some r/\∀ (W0:Wit) (a:Act) (w:World),ao P V W0 (ac U0 st) a w->aC P V W0 (ac U0 st) w [one st y] [a.eval y]->(∀ x∈ks,aB (ac U0 st) x)->Ow w (gd V W0 p) E' e' xs (a.eval x) (aU W0 ks)->lH P V o st U a w:=by
            intro U0 E' e' p xs ks hE he happ;subst hE;unfold dx at happ;split at happ
            · rename_i t1 ht1
              cases hb:aX (t1.kill++ks)&&db t1.frz (t1.kill++ks)&&decide ((xs.length+t1.val.length)*bytes<=ah) with
              |false=>simp[hb]at happ
              |true =>
                simp only[hb,cond_true]at happ;simp only[Bool.and_eq_true,decide_eq_true_eq]at hb;obtain⟨⟨hb1,hb2⟩,hb3⟩:=hb;refine⟨_,happ,λW0 a w hr hly hks how next Q hn=>?_⟩;obtain⟨⟨bsy,hel,hcnt⟩,hf,hkl⟩:=un hr hly ht1;have hkk:∀ x∈t1.kill++ks,aB (ac U0 st) x:=λx hx=>(List.mem_append.1 hx).elim (hkl x) (hks x)
                obtain⟨h1,_,_,h4⟩:=eX hV hr hb2 hkk;have hnd:=fP hr hb1 hkk;rw[dm]at hnd h4;have hfree:∀ k∈aU W0 t1.kill++aU W0 ks,¬ bW V (W0.frz (ac U0 st) t1.frz) _ k:=λk hk=>k7 ⟨(h4 k hk).1,(h4 k hk).2.1,(h4 k hk).2.2.2.1,(h4 k hk).2.2.2.2⟩
                rw[List.nodup_append]at hnd;obtain⟨hndk,hndb,hdis⟩:=hnd;have hbo:∀ k,(a.eval x).ownBlock=some k->k∈aU W0 ks:=by
                  intro k hk;obtain⟨_,flat,bss,_,hb3,_⟩:=how;rw[hb3,hk];simp
                have hgu:∀ k,gd V (W0.frz (ac U0 st) t1.frz) (p||t1.p) k->bW V (W0.frz (ac U0 st) t1.frz) (ac (aM (ac (aE (ac U0 st) t1.frz) (ac U0 st)) (t1.kill++ks)++aE (ac U0 st) t1.frz) (ac U0 st)) k:=by
                  rintro k (hk|⟨_,hk⟩)
                  · exact .inl hk
                  · exact .inr (.inl (hV.ro k hk))
                have hbsy:∀ k∈(List.range t1.val.length).flatMap bsy,k∈aU W0 t1.kill:=λk hk=>List.count_pos_iff.1 (by have:=hcnt k;have:=List.count_pos_iff.2 hk;omega)
                obtain⟨v',w',bs',hrun,hg,how',hcnt'⟩:=um (P:=P) (t:=t) (ty:=o.type) hti (kW he) how hel hb3 (G':=gd V (W0.frz (ac U0 st) t1.frz) (p||t1.p))
                  (bL (W':=W0.frz (ac U0 st) t1.frz) (by intro h;simp[h]) (λ_ h=>Or.inl h))
                  (λk hk=>bL (W':=W0.frz (ac U0 st) t1.frz) (by intro h;simp[h]) (λ_ h=>h) k (jp hf k hk))
                  (λk hk=>⟨h1.used_lt k (hgu k hk),λe1=>hfree k (List.mem_append_right _ (hbo k e1)) (hgu k hk)⟩)
                  (λj hj k hk e1=>hdis k (hbsy k (dT.2 ⟨j,hj,hk⟩)) k (hbo k e1) rfl)
                have hsub:=lN (bs:=aU W0 ks) (K:=(List.range t1.val.length).flatMap bsy++[w.heap.size]) hndb
                  (bz.2 λk=>by
                    rw[List.count_append];have h5:=hcnt k;have h6:=bz.1 hndk k;by_cases hk:k=w.heap.size
                    · subst hk
                      have:(aU W0 t1.kill).count w.heap.size=0:=List.count_eq_zero.2 (λhm=>by have:=(h4 _ (List.mem_append_left _ hm)).2.2.1;omega);simp;omega
                    · have:List.count k [w.heap.size]=0:=List.count_eq_zero.2 (by simp[hk])
                      omega)
                  (λk hk hm=>by
                    rcases List.mem_append.1 hk with hk|hk
                    · exact hdis k (hbsy k hk) k hm rfl
                    · simp at hk
                      subst hk;have:=(h4 _ (List.mem_append_right _ hm)).2.2.1;omega) hcnt'
                refine dV (hexec a w w' v' hrun) ?_;rw[hd];refine hn _ _ ?_;rw[ce,aN,bm];refine h1.putOwn hV hg.size hg.os hg.tape hg.output (λk hk=>hg.block k (h1.used_lt k hk) (λe1=>hfree k (List.mem_append_right _ (hbo k e1.symm)) hk)) d (hok d hd).1 (hok d hd).2 _ (Nat.lt_succ_self _) ⟨hsub.1,how'⟩ (λk hk hu=>?_);rcases hsub.2 k hk with hk|hk
                · exact hfree k (List.mem_append_right _ hk) hu
                · rcases List.mem_append.1 hk with hk|hk
                  · exact hfree k (List.mem_append_left _ (hbsy k hk)) hu
                  · simp at hk
                    have:=h1.used_lt k hu;omega
            · cases happ
          have hyd:∀ (U0:Upd) (x':Leaf),dM st U0 d E e bytes x' (one st y) κ=some r->one st y≠.dead:=by
            intro U0 x' h e1;rw[e1]at h;unfold dM at h;split at h
            · split at h
              · rename_i p E' e' xs' hd'
                cases hb:Nat.beq E' E&&decide (e'.sh=e.sh) with
                |false=>simp[hb]at h
                |true =>
                  simp only[hb,cond_true,dx,e8,aD,cG,Option.map_none,bZ,take]at h;cases e'.flat <;> cases decide (e'.sh=e') <;> simp at h
              · cases h
            · simp only[dx,e8,aD,cG,Option.map_none,bZ,take]at h
              cases e.flat <;> cases decide (e.sh=e) <;> simp at h
            · cases h
          simp only[gw]at h;cases hn:im (one st x) with
          |true =>
            rw[hn]at h;simp only[cond_true]at h;rw[gb]at h;obtain⟨⟨U0,x'⟩,hbase,h⟩:=Option.bind_eq_some_iff.1 h;have hyd:=hyd _ _ h;simp only[dM]at h;split at h
            · rename_i r' j n
              split at h
              · rename_i p' E' e' xs' hd'
                cases hb:Nat.beq E' E&&decide (e'.sh=e.sh) with
                |false=>simp[hb]at h
                |true =>
                  simp only[hb,cond_true]at h;simp only[Bool.and_eq_true,decide_eq_true_eq]at hb;obtain⟨U,hU,hg⟩:=fin U0 E' e' p' xs' [(r',j)] (Nat.eq_of_beq_eq_true hb.1) hb.2 h;refine⟨U,hU,λW a w hr=>?_⟩;obtain⟨hlx,_,_,_,_⟩:=bk hr x (by intro e1;rw[e1]at hn;simp[im]at hn);obtain⟨W0,n0,p0,E0,e0,xs0,g1,g2,g3,g4,_⟩:=tk hV hr hlx hbase;obtain⟨hly,hnoy,hy1,_,_⟩:=bk hr y hyd;obtain⟨h5,h6,h7,h8⟩:=jn g1 hd' g4;exact hg W0 a w g1 ⟨⟨hly.carry hV.ro g2 (λho=>absurd ho hnoy),hnoy,hy1⟩,trivial⟩ (λz hz=>by simp at hz;subst hz;exact⟨_,h7,trivial⟩) (by simpa[aU]using h6)
              · cases h
            · exfalso
              obtain⟨n,hx'⟩:=yu hbase;cases hx'
            · cases h
          |false =>
            rw[hn]at h;simp only[cond_false]at h;have hyd:=hyd _ _ h;simp only[dM]at h;split at h
            · rename_i r' j n hx
              split at h
              · rename_i p' E' e' xs' hd'
                cases hb:Nat.beq E' E&&decide (e'.sh=e.sh) with
                |false=>simp[hb]at h
                |true =>
                  simp only[hb,cond_true]at h;simp only[Bool.and_eq_true,decide_eq_true_eq]at hb;obtain⟨U,hU,hg⟩:=fin [] E' e' p' xs' [(r',j)] (Nat.eq_of_beq_eq_true hb.1) hb.2 h;refine⟨U,hU,λW a w hr=>?_⟩;obtain⟨hlx,_,_,_,_⟩:=bk hr x (by rw[hx];simp);rw[hx]at hlx;obtain⟨hly,hnoy,hy1,_,_⟩:=bk hr y hyd;obtain⟨h5,h6,h7,h8⟩:=jn hr hd' hlx;exact hg W a w hr ⟨⟨hly,hnoy,hy1⟩,trivial⟩ (λz hz=>by simp at hz;subst hz;exact⟨_,h7,trivial⟩) (by simpa[aU]using h6)
              · cases h
            · rename_i hx
              obtain⟨U,hU,hg⟩:=fin [] E e false [] [] rfl rfl h;refine⟨U,hU,λW a w hr=>?_⟩;obtain⟨hlx,_,_,_,_⟩:=bk hr x (by rw[hx];simp);rw[hx]at hlx;obtain⟨hly,hnoy,hy1,_,_⟩:=bk hr y hyd;exact hg W a w hr ⟨⟨hly,hnoy,hy1⟩,trivial⟩ (by simp) (by rw[show a.eval x=_ from hlx];exact OwH.nil w _ E e)
            · cases h
      · cases h
    · cases h
end
end Go.Proofs.YtmcbmojdeikcdaaGreatEv
namespace Go.Proofs.YtmcbmojdeikcdaaGreatEv
open Go Go.RowKit
def fQ (w:World)(ro pr:Nat->Prop)(two:Bool)(a:Ty)(x:a.den)(v:Value):Prop :=
 if two=true then ∃ b ob g o c,v=.pointer (some ⟨b,ob,none⟩)/\pr b/\w.cell? ⟨b,ob,none⟩=some (.pointer (some ⟨g,o,none⟩))/\pr g/\Rd w ro a x c/\cE w g o c
 else ∃ g o c,v=.pointer (some ⟨g,o,none⟩)/\pr g/\Rd w ro a x c/\cE w g o c
def iD (w:World)(ro pr:Nat->Prop):(cs:List (Bool×Ty))->kC cs->List Value->Prop
 |[],_,us=>us=[]
 |c::cs,x,us=>∃ u us',us=u::us'/\fQ w ro pr c.1 c.2 x.1 u/\iD w ro pr cs x.2 us'
def mA (P:Program)(w:World)(ro pr:Nat->Prop):(pk:PK)->pk.den->Value->List Nat->Prop
 |.rd a,x,v,bs=>bs=[]/\∃ cs,cV a.isAgg v cs/\Rd w ro a x cs
 |.own a,x,v,bs=>∃ cs,cV a.isAgg v cs/\Mx w ro a none 0 x cs bs
 |.io a,x,v,bs=>∃ cs,cV a.isAgg v cs/\Mx w ro a none 0 x cs bs
 |.rref a,x,v,bs=>bs=[]/\fQ w ro pr false a x v
 |.rref2 a,x,v,bs=>bs=[]/\fQ w ro pr true a x v
 |.iop a,x,v,bs=>∃ g c E b0,v=.pointer (some ⟨g,0,none⟩)/\w.heap[g]?=some (.cells c.toArray E (0,0))/\Mx w ro a none 0 x c b0/\bs=g::b0
 |.fn As B,φ,v,bs=>bs=[]/\hZ P w pr As B φ v
 |.clo f cs,x,v,bs=>bs=[]/\∃ us:List Value,v=.func (.func f) #[] us.toArray/\iD w ro pr cs x us
 |.hol a c off,x,v,bs=>∃ cs u b0 b1 E e xs,cV a.isAgg v cs/\Mx w ro a (some c) 0 x.1 cs b0/\cs[c]?=some u/\a8 c a 0 x.1=some ⟨E,e,xs⟩/\OwB w ro (some (x.2,off)) E e xs u b1/\∀ k,bs.count k=b0.count k+b1.count k
def cW (P:Program)(w:World)(ro pr:Nat->Prop):(ps:List PK)->ab ps->List Value->List (List Nat)->Prop
 |[],_,vs,bss=>vs=[]/\bss=[]
 |p::ps,x,vs,bss=>∃ v vs' b bss',vs=v::vs'/\bss=b::bss'/\mA P w ro pr p x.1 v b/\cW P w ro pr ps x.2 vs' bss'
def mB (w:World)(G:Nat->Prop)(a:Ty)(x:a.den)(ptr:Bool)(v:Value)(bs:List Nat):Prop :=
 if ptr=true then ∃ g c E b0,v=.pointer (some ⟨g,0,none⟩)/\w.heap[g]?=some (.cells c.toArray E (0,0))/\Mx w G a none 0 x c b0/\bs=g::b0
 else ∃ cs,cV a.isAgg v cs/\Mx w G a none 0 x cs bs
def dD (w:World)(G:Nat->Prop):(ps:List PK)->aj ps->List Value->List (List Nat)->Prop
 |.io a::ps,o,v::vs,b::bs=>mB w G a o.1 false v b/\dD w G ps o.2 vs bs
 |.iop a::ps,o,v::vs,b::bs=>mB w G a o.1 true v b/\dD w G ps o.2 vs bs
 |.rd _::ps,o,_::vs,b::bs=>b=[]/\dD w G ps o vs bs
 |.own _::ps,o,_::vs,b::bs=>b=[]/\dD w G ps o vs bs
 |.rref _::ps,o,_::vs,b::bs=>b=[]/\dD w G ps o vs bs
 |.rref2 _::ps,o,_::vs,b::bs=>b=[]/\dD w G ps o vs bs
 |.fn _ _::ps,o,_::vs,b::bs=>b=[]/\dD w G ps o vs bs
 |.clo _ _::ps,o,_::vs,b::bs=>b=[]/\dD w G ps o vs bs
 |.hol _ _ _::ps,o,_::vs,b::bs=>b=[]/\dD w G ps o vs bs
 |[],_,[],[]=>True
 |_,_,_,_=>False
def xz (w:World)(G ro:Nat->Prop):(r:RK)->r.den->Value->List Nat->Prop
 |.v a,y,v,bs=>∃ cs,cV a.isAgg v cs/\Mx w G a none 0 y cs bs
 |.bv a,y,v,bs=>bs=[]/\∃ cs,cV a.isAgg v cs/\Rd w (λk=>G k\/ro k) a y cs
 |.box a,y,v,bs=>∃ g c E b0,v=.pointer (some ⟨g,0,none⟩)/\w.heap[g]?=some (.cells c.toArray E (0,0))/\Mx w G a none 0 y c b0/\bs=g::b0
def kx (w:World)(G ro:Nat->Prop):(rs:List RK)->ak rs->List Value->List (List Nat)->Prop
 |[],_,us,bss=>us=[]/\bss=[]
 |r::rs,y,us,bss=>∃ u us' b bss',us=u::us'/\bss=b::bss'/\xz w G ro r y.1 u b/\kx w G ro rs y.2 us' bss'
def qD:List Value->Value->Prop
 |[u],v=>v=u
 |us,v=>v=.tuple us.toArray
def oH (w w':World)(gs:List Nat)(k:Nat):Prop:=k<w'.heap.size/\(w.heap.size<=k\/k∈gs)
def Post (c:Ctr)(w:World)(ro:Nat->Prop)(vs:List Value)(bss:List (List Nat))(y:ak c.rs×aj c.ps)(e:Ending)(w':World):Prop :=
 ∃ (v:Value) (us:List Value) (N:Nat->Prop) (oss rbs:List (List Nat)),e=.returned v/\qD us v/\w.heap.size<=w'.heap.size/\w'.os=w.os/\w'.tape=w.tape/\w'.output=w.output /\
  (∀ k,k<w.heap.size->k∉bss.flatten->w'.heap[k]?=w.heap[k]?)/\(∀ k,N k->oH w w' bss.flatten k) /\
  dD w' (λk=>N k\/(c.fresh=false/\ro k)) c.ps y.2 vs oss/\kx w' (λk=>N k\/(c.fresh=false/\ro k)) ro c.rs y.1 us rbs /\
  (oss.flatten++rbs.flatten).Nodup/\∀ k∈oss.flatten++rbs.flatten,oH w w' bss.flatten k/\¬ N k
def ag (P:Program)(c:Ctr):Prop :=
 kq P c.f/\∀ (w:World) (ro:Nat->Prop) (x:ab c.ps) (vs:List Value) (bss:List (List Nat)) (y:ak c.rs×aj c.ps),
  cW P w ro (λk=>k<w.heap.size/\k∉bss.flatten) c.ps x vs bss->(∀ k,ro k->k<w.heap.size/\k∉bss.flatten)->bss.flatten.Nodup->c.den x=some y ->
  Calls P c.f vs.toArray w (Post c w ro vs bss y)
section
variable {P:Program} {V:Env} {Γ:List Ctr} {T:TypeId->TI} {st:St} {o:Oper} {R:Type} {κ:Upd->Option R} {r:R}
theorem hZ.mono {w0:World}{S S':Nat->Prop}(hS:∀ k,S k->S' k){As:List Ty}{B:Ty}{φ:Tup As->Option B.den}{v:Value}(h:hZ P w0 S As B φ v):hZ P w0 S' As B φ v:=by
 obtain⟨f,caps,e,he,hc⟩:=h;exact⟨f,caps,e,he,λw1 hs hk=>hc w1 hs (λk hk'=>hk k (hS k hk'))⟩
theorem hZ.move {w0 w:World}{S S':Nat->Prop}(hsz:w0.heap.size<=w.heap.size)(hS:∀ k,S k->S' k/\w.heap[k]?=w0.heap[k]?){As:List Ty}{B:Ty}{φ:Tup As->Option B.den}{v:Value}
  (h:hZ P w0 S As B φ v):hZ P w S' As B φ v:=by
 obtain⟨f,caps,e,he,hc⟩:=h;exact⟨f,caps,e,he,λw1 hs hk=>hc w1 (Nat.le_trans hsz hs) (λk hk'=>(hk k (hS k hk').1).trans (hS k hk').2)⟩
theorem fQ.carry {w w1:World}{ro ro' pr pr':Nat->Prop}(hro:∀ k,ro k->ro' k/\w1.heap[k]?=w.heap[k]?)(hpr:∀ k,pr k->pr' k/\w1.heap[k]?=w.heap[k]?){two:Bool}{a:Ty}{x:a.den}{v:Value}(h:fQ w ro pr two a x v):fQ w1 ro' pr' two a x v:=by
 unfold fQ at h ⊢;split at h
 ·rename_i hb;rw[if_pos hb];obtain⟨b,ob,g,o,c,h3,h4,h5,h6,h7,h8⟩:=h;exact⟨b,ob,g,o,c,h3,(hpr b h4).1,by rw[jM (hpr b h4).2];exact h5,(hpr g h6).1,h7.carry (λk hk=>(hro k hk).1) (λk hk=>(hro k hk).2),h8.same (hpr g h6).2⟩
 ·rename_i hb;rw[if_neg hb];obtain⟨g,o,c,h3,h4,h5,h6⟩:=h;exact⟨g,o,c,h3,(hpr g h4).1,h5.carry (λk hk=>(hro k hk).1) (λk hk=>(hro k hk).2),h6.same (hpr g h4).2⟩
theorem iD.carry {w w1:World}{ro ro' pr pr':Nat->Prop}(hro:∀ k,ro k->ro' k/\w1.heap[k]?=w.heap[k]?)(hpr:∀ k,pr k->pr' k/\w1.heap[k]?=w.heap[k]?):∀ {cs:List (Bool×Ty)} {x:kC cs} {us:List Value},iD w ro pr cs x us->iD w1 ro' pr' cs x us
 |[],_,_,h=>h
 |_::_,_,_,⟨u,us',e,h1,h2⟩=>⟨u,us',e,h1.carry hro hpr,iD.carry hro hpr h2⟩
theorem mA.mono {w:World}{ro ro' pr pr':Nat->Prop}(hro:∀ k,ro k->ro' k)(hpr:∀ k,pr k->pr' k):∀ {pk:PK} {x:pk.den} {v:Value} {bs:List Nat},mA P w ro pr pk x v bs->mA P w ro' pr' pk x v bs
 |.rd _,_,_,_,⟨e,cs,h1,h2⟩=>⟨e,cs,h1,h2.mono hro⟩
 |.own _,_,_,_,⟨cs,h1,h2⟩=>⟨cs,h1,h2.mono hro⟩
 |.io _,_,_,_,⟨cs,h1,h2⟩=>⟨cs,h1,h2.mono hro⟩
 |.rref _,_,_,_,⟨e,h⟩=>⟨e,h.carry (λk hk=>⟨hro k hk,rfl⟩) (λk hk=>⟨hpr k hk,rfl⟩)⟩
 |.rref2 _,_,_,_,⟨e,h⟩=>⟨e,h.carry (λk hk=>⟨hro k hk,rfl⟩) (λk hk=>⟨hpr k hk,rfl⟩)⟩
 |.iop _,_,_,_,⟨g,c,E,b0,h1,h2,h3,h4⟩=>⟨g,c,E,b0,h1,h2,h3.mono hro,h4⟩
 |.fn _ _,_,_,_,⟨e,h⟩=>⟨e,hZ.mono hpr h⟩
 |.clo _ _,_,_,_,⟨e,us,h1,h2⟩=>⟨e,us,h1,h2.carry (λk hk=>⟨hro k hk,rfl⟩) (λk hk=>⟨hpr k hk,rfl⟩)⟩
 |.hol _ _ _,_,_,_,⟨cs,u,b0,b1,E,e,xs,h1,h2,h3,h4,h5,h6⟩=>⟨cs,u,b0,b1,E,e,xs,h1,h2.mono hro,h3,h4,h5.carry hro (λ_ _=>rfl) (λ_ _=>rfl),h6⟩
theorem cW.mono {w:World}{ro ro' pr pr':Nat->Prop}(hro:∀ k,ro k->ro' k)(hpr:∀ k,pr k->pr' k):∀ {ps:List PK} {x:ab ps} {vs:List Value} {bss:List (List Nat)},cW P w ro pr ps x vs bss->cW P w ro' pr' ps x vs bss
 |[],_,_,_,h=>h
 |_::_,_,_,_,⟨v,vs',b,bss',e1,e2,h1,h2⟩=>⟨v,vs',b,bss',e1,e2,h1.mono hro hpr,cW.mono hro hpr h2⟩
def iL (V:Env)(W:Wit)(st:St)(ks:List (Nat×Nat))(see:List Nat)(k:Nat):Prop:=W.nw k\/V.prot k\/(∃ b∈see,live st b/\W.β b=k)\/∃ x∈ks,k∈W.bs x.1 x.2
theorem jQ {W:Wit}{k1 k2:List (Nat×Nat)}{s1 s2:List Nat}(h:∀ x∈k1,x∈k2)(hs:∀ b∈s1,b∈s2):∀ k,iL V W st k1 s1 k->iL V W st k2 s2 k:=by
 rintro k (hk|hk|⟨b,hb,hk⟩|⟨x,hx,hk⟩)
 ·exact .inl hk
 ·exact .inr (.inl hk)
 ·exact .inr (.inr (.inl ⟨b,hs b hb,hk⟩))
 ·exact .inr (.inr (.inr ⟨x,h x hx,hk⟩))
theorem gT {W:Wit}{p q:Bool}{k1 k2:List (Nat×Nat)}(hp:p=true->q=true)(h:∀ x∈k1,x∈k2):∀ k,bi V W p k1 k->bi V W q k2 k:=by
 rintro k (hk|⟨x,hx,hk⟩)
 ·exact .inl (bL (W':=W) hp (λ_ h=>h) k hk)
 ·exact .inr ⟨x,h x hx,hk⟩
theorem fC {agg:Bool}{v:Value}{cs:List Value}(h:dI (be agg) v cs):cV agg v cs:=by
 cases agg <;> exact h
theorem lQ {W:Wit}{a:Act}{w:World}(h:ao P V W st a w){l:Leaf}{ls:List Leaf}{v:Value}(hl:aJ P V W st w [] l v)(ht:target st l=some ls)(ks:List (Nat×Nat))(see:List Nat)(hsee:∀ b∈eB [l],b∈see) :
  ∃ g o cs,v=.pointer (some ⟨g,o,none⟩)/\iL V W st ks see g/\aC P V W st w ls cs/\cE w g o cs:=by
 unfold target at ht;split at ht
 ·rename_i b;cases hb:decide ((st b).sh=.agg) with
  |false=>simp[hb]at ht
  |true =>
   simp only[hb,cond_true,Option.some.injEq]at ht;subst ht;obtain⟨hB,hag,hv⟩:=hl;rcases h.boxes b hB with ⟨h8,_⟩|⟨_,E,h8⟩
   ·rw[hag]at h8;cases h8
   ·exact⟨W.β b,0,W.cs b,hv,.inr (.inr (.inl ⟨b,hsee b (by simp[eB]),⟨hB,hag⟩,rfl⟩)),e9 h b,λi v hv=>by
     rw[Nat.zero_add,cell_of_row w (W.β b) i _ E (0,0) h8];simpa using hv⟩
 ·rename_i p a x;simp only[Option.some.injEq]at ht;subst ht;obtain⟨g,o',c,hv,hg,hrd,hc⟩:=hl;rw[Nat.add_zero]at hv;exact⟨g,o',c,hv,hg.elim .inl (λh=>.inr (.inl h)),eq (λ_ h=>h) hrd,hc⟩
 ·rename_i p a x;simp only[Option.some.injEq]at ht;subst ht;obtain⟨b,ob,g,o',c,hv,hb,hcell,hg,hrd,hc⟩:=hl;refine⟨b,ob,[.pointer (some ⟨g,o',none⟩)],hv,hb.elim .inl (λh=>.inr (.inl h)),⟨⟨⟨g,o',c,rfl,hg,hrd,hc⟩,id,rfl⟩,trivial⟩,λi u hi=>?_⟩;cases i with
  |zero=>simp at hi;subst hi;exact hcell
  |succ i=>simp at hi
 ·cases ht
theorem fR {W:Wit}{w:World}{x:aG×List Leaf}{l:Leaf}{v:Value}{cs:List Value}(hs:dI x.1 v cs)(hl:aC P V W st w x.2 cs)(hx:cb x=l)(hd:l≠.dead) :
  aJ P V W st w [] l v/\v.oneCell'=true:=by
 unfold cb at hx;split at hx
 ·rename_i l';subst hx;have hs:cs=[v]:=hs;subst hs;exact⟨hl.1.1,hl.1.2.2⟩
 ·exact absurd hx.symm hd
theorem lR {W:Wit}{a:Act}{w:World}(h:ao P V W st a w){c:Bool×Ty}{l:Leaf}{v:Value}(hl:aJ P V W st w [] l v){g:Got c.2.den}(hg:eC st c l=some g) :
  fQ w (bi V W g.p g.frz) (iL V W st g.frz g.see) c.1 c.2 g.val v/\(∀ z∈g.frz,aB st z)/\g.kill=[]/\g.lend=[]:=by
 unfold eC at hg;cases hc:c.1 with
 |true =>
  rw[hc]at hg;simp only[cond_true]at hg;split at hg
  ·rename_i l' ht;split at hg
   ·rename_i ls ht';simp only[Option.map_eq_some_iff]at hg;obtain⟨⟨p,y⟩,hy,rfl⟩:=hg;obtain⟨g,o',cs,hv,hgs,hls,hcl⟩:=lQ h hl ht (bq st ls) (eB [l,l']) (λb hb=>by
     cases l <;> simp[eB]at hb ⊢ <;> exact .inl hb)
    match cs,hls with
    |[u],hls =>
     obtain⟨g2,o2,cs2,hv2,hg2,hls2,hc2⟩:=lQ h hls.1.1 ht' (bq st ls) (eB [l,l']) (λb hb=>by
      cases l <;> cases l' <;> simp[eB]at hb ⊢ <;> first|exact hb|exact .inr hb)
     have hcell:=hcl 0 u rfl;rw[Nat.add_zero,hv2]at hcell;refine⟨?_,λz hz=>dK hls2 hz,rfl,rfl⟩;unfold fQ;rw[if_pos rfl];exact⟨g,o',g2,o2,cs2,hv,hgs,hcell,hg2,dU h hls2 hy,hc2⟩
   ·cases hg
  ·cases hg
 |false =>
  rw[hc]at hg;simp only[cond_false]at hg;split at hg
  ·rename_i ls ht;simp only[Option.map_eq_some_iff]at hg;obtain⟨⟨p,y⟩,hy,rfl⟩:=hg;obtain⟨g,o',cs,hv,hgs,hls,hcl⟩:=lQ h hl ht (bq st ls) (eB [l]) (λb hb=>hb);refine⟨?_,λz hz=>dK hls hz,rfl,rfl⟩;unfold fQ;rw[if_neg (by simp)];exact⟨g,o',cs,hv,hgs,dU h hls hy,hcl⟩
  ·cases hg
theorem k9 {W:Wit}{a:Act}{w:World}(h:ao P V W st a w):∀ {cs:List (Bool×Ty)} {ls:List Leaf} {us:List Value} {g:Got (kC cs)},aC P V W st w ls us->cf st cs ls=some g ->
  iD w (bi V W g.p g.frz) (iL V W st g.frz g.see) cs g.val us/\(∀ z∈g.frz,aB st z)/\g.kill=[]/\g.lend=[]
 |[],[],us,g,hl,hg=>by
  simp only[cf,Option.some.injEq]at hg;subst hg;cases us with
  |nil=>exact⟨rfl,by simp,rfl,rfl⟩
  |cons=>exact hl.elim
 |[],_::_,_,_,_,hg=>by simp[cf]at hg
 |_::_,[],_,_,_,hg=>by simp[cf]at hg
 |c::cs,l::ls,us,g,hl,hg=>by
  cases us with
  |nil=>exact hl.elim
  |cons u us =>
   simp only[cf]at hg;split at hg
   ·rename_i g1 hg1;split at hg
    ·rename_i g2 hg2;simp only[Option.some.injEq]at hg;subst hg;obtain⟨h1,h2,h3,h4⟩:=lR h hl.1.1 hg1;obtain⟨h5,h6,h7,h8⟩:=k9 h hl.2 hg2;refine⟨⟨u,us,rfl,h1.carry (λk hk=>⟨gT (by intro h;simp[h]) (λx hx=>List.mem_append_left _ hx) k hk,rfl⟩) (λk hk=>⟨jQ (λx hx=>List.mem_append_left _ hx) (λx hx=>List.mem_append_left _ hx) k hk,rfl⟩),
      h5.carry (λk hk=>⟨gT (by intro h;simp[h]) (λx hx=>List.mem_append_right _ hx) k hk,rfl⟩) (λk hk=>⟨jQ (λx hx=>List.mem_append_right _ hx) (λx hx=>List.mem_append_right _ hx) k hk,rfl⟩)⟩,?_,rfl,rfl⟩
     intro z hz;exact (List.mem_append.1 hz).elim (h2 z) (h6 z)
    ·cases hg
   ·cases hg
theorem uq {W:Wit}{w:World}{c:Bool×Bool×(a:Ty)×a.den}{v:Value}(h:gP V W w c v):aJ P V W st w [] (d8 c) v/\¬ an (d8 c)/\v.oneCell'=true:=by
 unfold gP at h;unfold d8;split at h
 ·rename_i hb;rw[hb];refine⟨h,id,?_⟩;obtain⟨b,ob,g,o',c',hv,_⟩:=h;rw[hv];rfl
 ·rename_i hb;have hb:c.2.1=false:=by simpa using hb
  rw[hb];refine⟨h,id,?_⟩;obtain⟨g,o',c',hv,_⟩:=h;rw[hv];rfl
theorem po {W:Wit}{w:World}{caps:List (Bool×Bool×(a:Ty)×a.den)}{us:List Value}(hl:us.length=caps.length)(h:∀ (i:Nat) (c:Bool×Bool×(a:Ty)×a.den) (u:Value),caps[i]?=some c->us[i]?=some u->gP V W w c u) :
  aC P V W st w (caps.map d8) us :=
 aC.mk (by simp[hl]) λj l v h1 h2=>by
  rw[List.getElem?_map,Option.map_eq_some_iff]at h1;obtain⟨c,h3,rfl⟩:=h1;exact uq (h j c v h3 h2)
theorem oI {W:Wit}{w:World}:∀ (caps:List Nat),(∀ b∈caps,B0<=b/\(st b).sh=.agg)->aC P V W st w (caps.map λb=>Leaf.bp b 0) (caps.map λb=>Value.pointer (some ⟨W.β b,0,none⟩))
 |[],_=>trivial
 |b::caps,h=>⟨⟨⟨(h b (List.mem_cons_self ..)).1,(h b (List.mem_cons_self ..)).2,rfl⟩,id,rfl⟩,oI caps (λq hq=>h q (List.mem_cons_of_mem _ hq))⟩
theorem lS {off:Nat}{E:TypeId}{e:Ty}{ys:List e.den}:∀ {a:Ty} {pos:Nat} {x z:a.den},bD off E e ys a pos x=some z->(∃ ys0,a8 off a pos x=some ⟨E,e,ys0⟩)/\a8 off a pos z=some ⟨E,e,ys⟩
 |.pair a b,pos,x,z,h=>by
  simp only[bD]at h;split at h
  ·rename_i u hu;simp only[Option.some.injEq]at h;subst h;obtain⟨⟨ys0,h1⟩,h2⟩:=lS hu;exact⟨⟨ys0,by simp only[a8,h1]⟩,by simp only[a8,h2]⟩
  ·rename_i hn;simp only[Option.map_eq_some_iff]at h;obtain⟨u,hu,rfl⟩:=h;have hin:=Mx.back.set_in hu;obtain⟨⟨ys0,h1⟩,h2⟩:=lS hu;have hnone:a8 off a pos x.1=none:=by
    cases hg:a8 off a pos x.1 with
    |none=>rfl
    |some u=>have:=fA hg;omega
   exact⟨⟨ys0,by simp only[a8,hnone,h1]⟩,by simp only[a8,hnone,h2]⟩
 |.list m E' e',pos,xs,z,h=>by
  simp only[bD]at h;cases hb:m&&Nat.beq pos off with
  |false=>simp[hb]at h
  |true =>
   rw[hb]at h;simp only[cond_true]at h;obtain⟨rfl,rfl,rfl⟩:=iI h;exact⟨⟨xs,by simp[a8,hb]⟩,by simp[a8,hb]⟩
 |.int _,_,_,_,h=>by simp[bD]at h
 |.bool,_,_,_,h=>by simp[bD]at h
 |.str,_,_,_,h=>by simp[bD]at h
 |.unit,_,_,_,h=>by simp[bD]at h
 |.hdr,_,_,_,h=>by simp[bD]at h
theorem Mx.refill {w:World}{G:Nat->Prop}{off:Nat}{E:TypeId}{e:Ty}{ys:List e.den}{u:Value}(hu:u.oneCell'=true):∀ {a:Ty} {pos:Nat} {x z:a.den} {cs:List Value} {bs:List Nat},Mx w G a (some off) pos x cs bs->bD off E e ys a pos x=some z ->
  Mx w G a (some off) pos z (cs.set (off-pos) u) bs
 |.pair a b,pos,x,z,cs,bs,⟨c1,c2,b1,b2,e1,e2,h1,h2⟩,h=>by
  have hl:=h1.len;simp only[bD]at h;split at h
  ·rename_i y hy;simp only[Option.some.injEq]at h;subst h;have hin:=Mx.back.set_in hy;refine⟨c1.set (off-pos) u,c2,b1,b2,?_,e2,Mx.refill hu h1 hy,h2⟩;rw[e1,List.set_append_left _ _ (by omega)]
  ·simp only[Option.map_eq_some_iff]at h;obtain⟨y,hy,rfl⟩:=h;have hin:=Mx.back.set_in hy;refine⟨c1,c2.set (off-(pos+a.cells)) u,b1,b2,?_,e2,h1,Mx.refill hu h2 hy⟩;rw[e1,List.set_append_right _ _ (by omega),hl,show off-pos-a.cells=off-(pos+a.cells) by omega]
 |.list m E' e',pos,xs,z,cs,bs,H,h=>by
  simp only[bD]at h;cases hb:m&&Nat.beq pos off with
  |false=>simp[hb]at h
  |true =>
   simp only[Bool.and_eq_true]at hb;obtain⟨rfl,hb⟩:=hb;have hb:=Nat.eq_of_beq_eq_true hb;subst hb;rw[hY]at H ⊢;obtain⟨v,rfl,h1,h2⟩:=H;exact⟨u,by simp,hu,h2⟩
 |.int _,_,_,_,_,_,_,h=>by simp[bD]at h
 |.bool,_,_,_,_,_,_,h=>by simp[bD]at h
 |.str,_,_,_,_,_,_,h=>by simp[bD]at h
 |.unit,_,_,_,_,_,_,h=>by simp[bD]at h
 |.hdr,_,_,_,_,_,_,h=>by simp[bD]at h
theorem aC.setNil {W:Wit}{w:World}{ls:List Leaf}{cs:List Value}(hl:aC P V W st w ls cs)(c:Nat):aC P V W st w (aQ ls c .nil) (cs.set c (.slice none 0 0)):=by
 have hlen:=hl.length;refine aC.mk (by simp[aQ,hlen]) λj l v h1 h2=>?_
 rcases aP _ _ _ _ _ h1 with ⟨rfl,rfl,hj⟩|⟨hne,h1⟩
 ·rw[List.getElem?_set_self (by omega)]at h2;simp only[Option.some.injEq]at h2;subst h2;exact⟨rfl,id,rfl⟩
 ·rw[List.getElem?_set_ne (Ne.symm hne)]at h2;exact hl.at_ j l v h1 h2
def ur (P:Program)(V:Env)(W:Wit)(st:St)(w:World)(pk:PK)(v:Value)(g:Got pk.den):Prop :=
 (∃ bs,mA P w (bi V W g.p g.frz) (iL V W st g.frz g.see) pk g.val v bs/\bs=g.lend.map W.β++aU W g.kill)/\(∀ z∈g.frz,aB st z)/\(∀ z∈g.kill,aB st z)/\(∀ b∈g.lend,live st b)
theorem lT (hV:ax V){W:Wit}{a:Act}{w:World}(h:ao P V W st a w){pk:PK}{x:aG×List Leaf}{v:Value}{cs:List Value}(hs:dI x.1 v cs)(hl:aC P V W st w x.2 cs)
  {g:Got pk.den} (hg:bc st pk x=some g):ur P V W st w pk v g:=by
 obtain⟨sh,ls⟩:=x;have taking:∀ {b:Ty} {g:Got b.den},(bif decide (sh=be b.isAgg) then (bZ st b ls).map (λt=>(⟨t.p,t.val,t.frz,t.kill,[],[]⟩:Got b.den)) else none)=some g ->
   (∃ cs,cV b.isAgg v cs/\Mx w (bi V W g.p g.frz) b none 0 g.val cs (aU W g.kill))/\g.lend=[]/\g.see=[]/\(∀ z∈g.frz,aB st z)/\(∀ z∈g.kill,aB st z):=by
  intro b g hq;cases hb:decide (sh=be b.isAgg) with
  |false=>simp[hb]at hq
  |true =>
   rw[hb]at hq;simp only[cond_true,Option.map_eq_some_iff]at hq;have hb':=of_decide_eq_true hb;subst hb';obtain⟨t,ht,rfl⟩:=hq;obtain⟨h1,h2,h3⟩:=dn (pos:=0) h hl ht;exact⟨⟨cs,fC hs,h1⟩,rfl,rfl,h2,h3⟩
 cases pk with
 |rd b =>
  simp only[bc]at hg;cases hb:decide (sh=be b.isAgg) with
  |false=>simp[hb]at hg
  |true =>
   rw[hb]at hg;simp only[cond_true,Option.map_eq_some_iff]at hg;have hb':=of_decide_eq_true hb;subst hb';obtain⟨⟨p,y⟩,hy,rfl⟩:=hg;exact⟨⟨[],⟨rfl,cs,fC hs,dU h hl hy⟩,rfl⟩,λz hz=>dK hl hz,by simp[Got.ofRd],by simp[Got.ofRd]⟩
 |own b =>
  obtain⟨h1,h2,h3,h4,h5⟩:=taking hg;exact⟨⟨_,h1,by rw[h2];rfl⟩,h4,h5,by rw[h2];simp⟩
 |io b =>
  obtain⟨h1,h2,h3,h4,h5⟩:=taking hg;exact⟨⟨_,h1,by rw[h2];rfl⟩,h4,h5,by rw[h2];simp⟩
 |iop b =>
  simp only[bc]at hg;split at hg
  ·rename_i q hx;cases hb:decide ((st q).sh=.agg) with
   |false=>simp[hb]at hg
   |true =>
    simp only[hb,cond_true,Option.map_eq_some_iff]at hg;obtain⟨t,ht,rfl⟩:=hg;obtain⟨hl1,hv⟩:=fR hs hl hx (by simp);obtain⟨hB,hag,hv2⟩:=hl1;rcases h.boxes q hB with ⟨h8,_⟩|⟨_,E,h8⟩
    ·rw[hag]at h8;cases h8
    ·obtain⟨h1,h2,h3⟩:=dn (pos:=0) h (e9 h q) ht;exact⟨⟨_,⟨W.β q,W.cs q,E,_,hv2,h8,h1,rfl⟩,rfl⟩,h2,h3,λb' hb'=>by simp at hb';subst hb';exact⟨hB,hag⟩⟩
  ·cases hg
 |rref b =>
  simp only[bc]at hg;have hd:cb (sh,ls)≠.dead:=by
   intro e;rw[e]at hg;simp[eC,target]at hg
  obtain⟨hl1,hv⟩:=fR hs hl rfl hd;obtain⟨h1,h2,h3,h4⟩:=lR (c:=(false,b)) h hl1 hg;exact⟨⟨[],⟨rfl,h1⟩,by rw[h3,h4];rfl⟩,h2,by rw[h3];simp,by rw[h4];simp⟩
 |rref2 b =>
  simp only[bc]at hg;have hd:cb (sh,ls)≠.dead:=by
   intro e;rw[e]at hg;simp[eC,target]at hg
  obtain⟨hl1,hv⟩:=fR hs hl rfl hd;obtain⟨h1,h2,h3,h4⟩:=lR (c:=(true,b)) h hl1 hg;exact⟨⟨[],⟨rfl,h1⟩,by rw[h3,h4];rfl⟩,h2,by rw[h3];simp,by rw[h4];simp⟩
 |fn As B =>
  simp only[bc]at hg;split at hg
  ·rename_i As' B' φ hx;obtain⟨hl1,hv⟩:=fR hs hl hx (by simp);split at hg
   ·rename_i hh;obtain⟨rfl,rfl⟩:=hh;simp only[Option.some.injEq]at hg;subst hg;have hf:hZ P V.w0 V.prot As' B' φ v:=hl1;exact⟨⟨[],⟨rfl,hZ.move h.size (λk hk=>⟨.inr (.inl hk),h.keep k hk⟩) hf⟩,rfl⟩,by simp,by simp,by simp⟩
   ·cases hg
  ·cases hg
 |clo f cs' =>
  simp only[bc]at hg;split at hg
  ·rename_i f' caps hx;cases hb:Nat.beq f' f with
   |false=>simp[hb]at hg
   |true =>
    simp only[hb,cond_true]at hg;have hb:=Nat.eq_of_beq_eq_true hb;subst hb;obtain⟨hl1,hv⟩:=fR hs hl hx (by simp);obtain⟨h1,h2⟩:=hl1;obtain⟨h3,h4,h5,h6⟩:=k9 h (oI caps h2) hg;exact⟨⟨[],⟨rfl,_,h1,h3⟩,by rw[h5,h6];rfl⟩,h4,by rw[h5];simp,by rw[h6];simp⟩
  ·rename_i f' caps hx;cases hb:Nat.beq f' f with
   |false=>simp[hb]at hg
   |true =>
    simp only[hb,cond_true]at hg;have hb:=Nat.eq_of_beq_eq_true hb;subst hb;obtain⟨hl1,hv⟩:=fR hs hl hx (by simp);obtain⟨us,h1,h2,h7⟩:=hl1;obtain⟨h3,h4,h5,h6⟩:=k9 h (po h2 h7) hg;exact⟨⟨[],⟨rfl,us,h1,h3⟩,by rw[h5,h6];rfl⟩,h4,by rw[h5];simp,by rw[h6];simp⟩
  ·cases hg
 |hol b c off =>
  simp only[bc]at hg;cases hb:decide (sh=be b.isAgg) with
  |false=>simp[hb]at hg
  |true =>
   rw[hb]at hg;simp only[cond_true]at hg;have hb':=of_decide_eq_true hb;subst hb';split at hg
   ·rename_i r' j n hal;split at hg
    ·rename_i p i o' E e xs hd;cases hbo:Nat.beq o' off with
     |false=>simp[hbo]at hg
     |true =>
      rw[hbo]at hg;simp only[cond_true]at hg;have hbo:=Nat.eq_of_beq_eq_true hbo;subst hbo;split at hg
      ·rename_i t ht;split at hg
       ·rename_i y hy;simp only[Option.some.injEq]at hg;subst hg;have hlc:ls[c]?=some (.al r' j n):=by
         rw[List.getD_eq_getElem?_getD]at hal;cases hq:ls[c]? with
         |none=>rw[hq]at hal;simp at hal
         |some l0=>rw[hq]at hal;simp at hal;rw[hal]
        have hlt:c<cs.length:=by rw[<- hl.length];exact (List.getElem?_eq_some_iff.1 hlc).1
        have hcu:=List.getElem?_eq_getElem hlt;obtain⟨hl1,_,hone⟩:=hl.at_ c _ _ hlc hcu;obtain⟨_,how,hpl,_⟩:=jn h hd hl1;obtain⟨h1,h2,h3⟩:=dn (pos:=0) h (hl.setNil c) ht;obtain⟨⟨ys0,hg0⟩,hgy⟩:=lS hy;obtain⟨v0,bn,b0,g1,g2,g3,g4⟩:=h1.out hg0;have hbn:bn=[]:=by
         simp only[Nat.sub_zero,List.getElem?_set_self hlt,Option.some.injEq]at g2;obtain⟨flat,bss,q1,q2,_⟩:=g1;obtain⟨A,cap,q4,_⟩:=q1.slice;rw[<- g2]at q2 q4;simp only[Value.slice.injEq]at q4;rw[q2,<- q4.2.1];rfl
        have g5:=Mx.refill hone g3 hy;simp only[Nat.sub_zero,List.set_set,List.set_getElem_self]at g5;refine⟨⟨_,⟨cs,cs[c],b0,W.bs r' j,E,e,xs,fC hs,g5.mono (gT (by intro h;simp[h]) (λ_ h=>h)),hcu,hgy,
         how.2.carry (λk hk=>.inl (bL (W':=W) (by intro h;simp[h]) (λ_ h=>h) k hk)) (λ_ _=>rfl) (λ_ _=>rfl),λk=>?_⟩,rfl⟩,h2,?_,by simp⟩
        ·have:=g4 k;rw[hbn]at this;simp only[List.map_nil,List.nil_append];rw[show aU W ((r',j)::t.kill)=W.bs r' j++aU W t.kill from rfl,List.count_append,this];simp;omega
        ·intro z hz;rcases List.mem_cons.1 hz with rfl|hz
         ·exact⟨_,hpl,trivial⟩
         ·exact h3 z hz
       ·cases hg
      ·cases hg
    ·cases hg
   ·cases hg
end
end Go.Proofs.YtmcbmojdeikcdaaGreatEv
namespace Go.Proofs.YtmcbmojdeikcdaaGreatEv
open Go Go.RowKit
section
variable {P:Program} {V:Env} {Γ:List Ctr} {T:TypeId->TI} {st:St} {o:Oper} {R:Type} {κ:Upd->Option R} {r:R}
def fV (P:Program)(V:Env)(W:Wit)(st:St)(w:World):List (aG×List Leaf)->List Value->Prop
 |[],vs=>vs=[]
 |x::xs,vs=>∃ v vs' cs,vs=v::vs'/\dI x.1 v cs/\aC P V W st w x.2 cs/\fV P V W st w xs vs'
theorem js {W:Wit}{w:World}{ga:(pk:PK)->aG×List Leaf->Option (Got pk.den)}
  (H:∀ (pk:PK) (x:aG×List Leaf) (v:Value) (cs:List Value) (g:Got pk.den),dI x.1 v cs->aC P V W st w x.2 cs->ga pk x=some g->ur P V W st w pk v g) :
  ∀ (ps:List PK) (xs:List (aG×List Leaf)) (vs:List Value) (g:Got (ab ps)),fV P V W st w xs vs->a7 ga ps xs=some g ->
   (∃ bss,cW P w (bi V W g.p g.frz) (iL V W st g.frz g.see) ps g.val vs bss/\∀ k,bss.flatten.count k=(g.lend.map W.β).count k+(aU W g.kill).count k) /\
    (∀ z∈g.frz,aB st z)/\(∀ z∈g.kill,aB st z)/\(∀ b∈g.lend,live st b)
 |[],[],vs,g,hx,hg=>by
  simp only[a7,Option.some.injEq]at hg;subst hg;exact⟨⟨[],⟨hx,rfl⟩,λk=>by simp[aU]⟩,by simp,by simp,by simp⟩
 |[],_::_,_,_,_,hg=>by simp[a7]at hg
 |_::_,[],_,_,_,hg=>by simp[a7]at hg
 |p::ps,x::xs,vs,g,hx,hg=>by
  obtain⟨v,vs',cs,rfl,hs,hl,hrest⟩:=hx;simp only[a7]at hg;split at hg
  ·rename_i g1 hg1;split at hg
   ·rename_i g2 hg2;simp only[Option.some.injEq]at hg;subst hg;obtain⟨⟨b,h1,h2⟩,h3,h4,h5⟩:=H p x v cs g1 hs hl hg1;obtain⟨⟨bss,h6,h7⟩,h8,h9,h10⟩:=js H ps xs vs' g2 hrest hg2;refine⟨⟨b::bss,⟨v,vs',b,bss,rfl,rfl,h1.mono (gT (by intro h;simp[h]) (λx hx=>List.mem_append_left _ hx)) (jQ (λx hx=>List.mem_append_left _ hx) (λx hx=>List.mem_append_left _ hx)),
     h6.mono (gT (by intro h;simp[h]) (λx hx=>List.mem_append_right _ hx)) (jQ (λx hx=>List.mem_append_right _ hx) (λx hx=>List.mem_append_right _ hx))⟩,λk=>?_⟩,?_,?_,?_⟩
    ·rw[List.flatten_cons,List.count_append,h7 k,h2,List.count_append,List.map_append,List.count_append,dm,List.count_append];omega
    ·intro z hz;exact (List.mem_append.1 hz).elim (h3 z) (h8 z)
    ·intro z hz;exact (List.mem_append.1 hz).elim (h4 z) (h9 z)
    ·intro z hz;exact (List.mem_append.1 hz).elim (h5 z) (h10 z)
   ·cases hg
  ·cases hg
theorem lU:∀ {Γ:List Ctr} {f:FuncId} {c:Ctr},kD Γ f=some c->c∈Γ/\c.f=f
 |[],_,_,h=>by simp[kD]at h
 |c'::Γ,f,c,h=>by
  simp only[kD]at h;cases hb:Nat.beq c'.f f with
  |true =>
   simp only[hb,cond_true,Option.some.injEq]at h;subst h;exact⟨List.mem_cons_self ..,Nat.eq_of_beq_eq_true hb⟩
  |false =>
   simp only[hb,cond_false]at h;obtain⟨h1,h2⟩:=lU h;exact⟨List.mem_cons_of_mem _ h1,h2⟩
theorem rL {w:World}{G pr:Nat->Prop}{q:List PK}{z:ab q}{cv:List Value}{bss:List (List Nat)}(hz:cW P w G pr q z cv bss):∀ (As:List Ty) (x:Tup As) (args:List Value),qz w G As x args ->
  cW P w G pr (As.map .rd++q) (mj q z As x) (args++cv) (As.map (λ_=>[])++bss)
 |[],_,_,h=>by rw[show _=_ from h];exact hz
 |a::As,x,_,⟨v,c,vs',rfl,h1,h2,h3⟩=>⟨v,vs'++cv,[],_,rfl,rfl,⟨rfl,c,h1,h2⟩,rL hz As x.2 vs' h3⟩
theorem oJ {w:World}{ro pr:Nat->Prop}:∀ {ps:List PK} {x:ab ps} {vs:List Value} {bss:List (List Nat)},ps.all PK.reads=true->cW P w ro pr ps x vs bss->bss.flatten=[]
 |[],_,_,_,_,⟨_,e⟩=>by rw[e];rfl
 |p::ps,_,_,_,h,⟨v,vs',b,bss',_,e,h1,h2⟩=>by
  simp only[List.all_cons,Bool.and_eq_true]at h;rw[e,List.flatten_cons,oJ h.2 h2,List.append_nil];cases p <;> first|exact h1.1|simp[PK.reads]at h
theorem oK {w w1:World}{ro pr ro' pr':Nat->Prop}(hro:∀ k,ro k->ro' k/\w1.heap[k]?=w.heap[k]?)(hpr:∀ k,pr k->pr' k/\w1.heap[k]?=w.heap[k]?):∀ {ps:List PK} {x:ab ps} {vs:List Value} {bss:List (List Nat)},
  ps.all PK.reads=true->cW P w ro pr ps x vs bss->cW P w1 ro' pr' ps x vs bss
 |[],_,_,_,_,h=>h
 |p::ps,x,_,_,hr,⟨v,vs',b,bss',e,e2,h1,h2⟩=>by
  simp only[List.all_cons,Bool.and_eq_true]at hr;refine⟨v,vs',b,bss',e,e2,?_,oK hro hpr hr.2 h2⟩;cases p with
  |rd a =>
   obtain⟨h0,cs,h3,h4⟩:=h1;exact⟨h0,cs,h3,h4.carry (λk hk=>(hro k hk).1) (λk hk=>(hro k hk).2)⟩
  |rref a=>exact⟨h1.1,h1.2.carry hro hpr⟩
  |rref2 a=>exact⟨h1.1,h1.2.carry hro hpr⟩
  |_=>simp[PK.reads]at hr
theorem la (hV:ax V){W:Wit}{p:Bool}{ks:List (Nat×Nat)}{see:List Nat}:∀ k,bi V W p ks k->iL V W st ks see k:=by
 rintro k ((hk|⟨_,hk⟩)|hk)
 ·exact .inl hk
 ·exact .inr (.inl (hV.ro k hk))
 ·exact .inr (.inr (.inr hk))
theorem pY {W:Wit}{ks:List (Nat×Nat)}{see:List Nat}(hks:∀ z∈ks,aB st z):∀ k,iL V W st ks see k->bW V W st k:=by
 rintro k (hk|hk|⟨b,_,hb,e⟩|⟨x,hx,hk⟩)
 ·exact .inl hk
 ·exact .inr (.inl hk)
 ·exact .inr (.inr (.inl ⟨b,hb,e⟩))
 ·obtain⟨l,h1,h2⟩:=hks x hx;exact .inr (.inr (.inr ⟨x.1,x.2,l,h1,h2,hk⟩))
theorem qE {W:Wit}{w:World}:∀ {ls:List Leaf} {us:List Value},aC P V W st w ls us->fV P V W st w (ls.map λl=>(aG.one,[l])) us
 |[],[],_=>rfl
 |_::_,_::_,h=>⟨_,_,[_],rfl,rfl,⟨h.1,trivial⟩,qE h.2⟩
theorem vQ (hV:ax V)(hΓ:∀ c∈Γ,ag P c){W:Wit}{a:Act}{w:World}(h:ao P V W st a w){As:List Ty}{B:Ty}{f:FuncId}{ls:List Leaf}{us:List Value}{v:Value}(hv:v=.func (.func f) #[] us.toArray)(hls:aC P V W st w ls us)
  {g:Got (Tup As->Option B.den)} (hg:jx Γ st As B f ls=some g):hZ P w (iL V W st g.frz g.see) As B g.val v/\(∀ z∈g.frz,aB st z)/\g.kill=[]/\g.lend=[]:=by
 unfold jx at hg;split at hg
 ·rename_i c hc;obtain⟨hmem,rfl⟩:=lU hc;obtain⟨hent,hsound⟩:=hΓ c hmem;obtain⟨f',ps,rs,fresh,den⟩:=c;simp only at hg hent hsound hv;generalize ps.drop As.length=q at hg;unfold qt at hg;split at hg
  ·rename_i hh;obtain⟨rfl,rfl⟩:=hh;cases hb:q.all PK.reads&&B.flat&&fresh with
   |false=>simp[hb]at hg
   |true =>
    simp only[hb,cond_true]at hg;simp only[Bool.and_eq_true]at hb;obtain⟨⟨hb1,hb2⟩,hb3⟩:=hb;subst hb3;split at hg
    ·rename_i g0 hg0;simp only[Option.some.injEq]at hg;subst hg;obtain⟨⟨bss,h1,h2⟩,h3,h4,h5⟩:=js (λpk x v cs g hs hl hg=>lT hV h hs hl hg) q _ _ g0 (qE hls) hg0;have hb0:=oJ hb1 h1;refine⟨⟨f',us.toArray,hv,hent,λw1 hsz hsame x args y hx hy=>?_⟩,h3,rfl,rfl⟩;simp only[Option.map_eq_some_iff]at hy;obtain⟨y0,hy0,rfl⟩:=hy;have hb1':(As.map (λ_=>([]:List Nat))++bss).flatten=[]:=by
      rw[List.flatten_append,hb0,List.append_nil];clear hx hy0;induction As with
      |nil=>rfl
      |cons a As ih=>simp
     have hlt:∀ k,iL V W st g0.frz g0.see k->k<w1.heap.size:=λk hk=>Nat.lt_of_lt_of_le (h.used_lt k (pY h3 k hk)) hsz
     have hargs:=rL (P:=P) (pr:=λk=>k<w1.heap.size/\k∉(As.map (λ_=>([]:List Nat))++bss).flatten)
      (oK (P:=P) (w1:=w1) (ro':=λk=>k<w1.heap.size) (λk hk=>⟨hlt k (la hV k hk),hsame k (la hV k hk)⟩)
       (λk hk=>⟨⟨hlt k hk,by rw[hb1'];simp⟩,hsame k hk⟩) hb1 h1) As x args hx
     have hcalls:=hsound w1 (λk=>k<w1.heap.size) (mj q g0.val As x) (args++us) (As.map (λ_=>[])++bss) y0 hargs
      (λk hk=>⟨hk,by rw[hb1'];simp⟩) (by rw[hb1'];exact List.nodup_nil) hy0
     have hargv:args.toArray++us.toArray=(args++us).toArray:=by simp
     rw[hargv];refine hcalls.mono λe w2 hpost=>?_
     obtain⟨u,us2,N,oss,rbs,rfl,hret,hsz2,hos,htp,hou,hfr,_,_,hres,_,_⟩:=hpost;obtain⟨u1,us',b,bss',e1,e2,⟨cs,hvo,hm⟩,e3,e4⟩:=hres;subst e3;subst e1;have hret:u=u1:=hret;subst hret;exact⟨u,cs,rfl,hvo,iV hb2 hm,⟨hos,htp,hou,hsz2,λk hk=>hfr k hk (by rw[hb1'];simp)⟩⟩
    ·cases hg
  ·cases hg
 ·cases hg
theorem sG (hV:ax V)(hΓ:∀ c∈Γ,ag P c){W:Wit}{a:Act}{w:World}(h:ao P V W st a w)(pk:PK)(x:aG×List Leaf)(v:Value)(cs:List Value)(g:Got pk.den)(hs:dI x.1 v cs)(hl:aC P V W st w x.2 cs)
  (hg:bT Γ st pk x=some g):ur P V W st w pk v g:=by
 cases pk with
 |fn As B =>
  simp only[bT]at hg;split at hg
  ·rename_i fc hfc;have hx:(∃ caps,cb x=.clo fc.1 caps/\fc.2=caps.map λb=>Leaf.bp b 0)\/∃ caps,cb x=.clr fc.1 caps/\fc.2=caps.map d8:=by
    generalize cb x=l at hfc;cases l <;> simp only[tD,Option.some.injEq,reduceCtorEq]at hfc
    ·subst hfc;exact .inl ⟨_,rfl,rfl⟩
    ·subst hfc;exact .inr ⟨_,rfl,rfl⟩
   rcases hx with ⟨caps,hx,he⟩|⟨caps,hx,he⟩
   ·obtain⟨hl1,_⟩:=fR hs hl hx (by simp);rw[he]at hg;obtain⟨h1,h2,h3,h4⟩:=vQ hV hΓ h hl1.1 (oI caps hl1.2) hg;exact⟨⟨[],⟨rfl,h1⟩,by rw[h3,h4];rfl⟩,h2,by rw[h3];simp,by rw[h4];simp⟩
   ·obtain⟨hl1,_⟩:=fR hs hl hx (by simp);rw[he]at hg;obtain⟨us,e1,e2,e3⟩:=hl1;obtain⟨h1,h2,h3,h4⟩:=vQ hV hΓ h e1 (po e2 e3) hg;exact⟨⟨[],⟨rfl,h1⟩,by rw[h3,h4];rfl⟩,h2,by rw[h3];simp,by rw[h4];simp⟩
  ·exact lT hV h hs hl hg
 |_=>exact lT hV h hs hl hg
end
end Go.Proofs.YtmcbmojdeikcdaaGreatEv
namespace Go.Proofs.YtmcbmojdeikcdaaGreatEv
open Go Go.RowKit
section
variable {P:Program} {V:Env} {W:Wit} {st st':St} {w w':World} {a:Act}
theorem gD {G:Nat->Prop}{p:Bool}(hG:∀ k,G k->gd V W p k):∀ {b:Ty} {pos:Nat} {x:b.den} {cs:List Value} {bs:List Nat},Mx w G b none pos x cs bs->bs.Nodup ->
  ∃ bsd:Nat->List Nat,(aq p b x).length=cs.length /\
   (∀ (j:Nat) (l:Leaf) (u:Value),(aq p b x)[j]?=some l->cs[j]?=some u->aJ P V W st w (bsd j) l u) /\
   (∀ (j:Nat) (l:Leaf),(aq p b x)[j]?=some l->an l->∀ k∈bsd j,k∈bs) /\
   (∀ (j j':Nat) (l l':Leaf),(aq p b x)[j]?=some l->an l->(aq p b x)[j']?=some l'->an l'->∀ k,k∈bsd j->k∈bsd j'->j=j')
 |.int k,_,x,cs,bs,H,_=>by
  obtain⟨rfl,rfl⟩:=H;exact⟨λ_=>[],rfl,λj l u h1 h2=>by cases j with|zero=>simp[aq]at h1 h2;subst h1;subst h2;rfl|succ j=>simp[aq]at h1,λj l h1 _ k hk=>by simp at hk,λj j' l l' _ _ _ _ k hk=>by simp at hk⟩
 |.bool,_,x,cs,bs,H,_=>by
  obtain⟨rfl,rfl⟩:=H;exact⟨λ_=>[],rfl,λj l u h1 h2=>by cases j with|zero=>simp[aq]at h1 h2;subst h1;subst h2;rfl|succ j=>simp[aq]at h1,λj l h1 _ k hk=>by simp at hk,λj j' l l' _ _ _ _ k hk=>by simp at hk⟩
 |.str,_,x,cs,bs,H,_=>by
  obtain⟨rfl,rfl⟩:=H;exact⟨λ_=>[],rfl,λj l u h1 h2=>by cases j with|zero=>simp[aq]at h1 h2;subst h1;subst h2;rfl|succ j=>simp[aq]at h1,λj l h1 _ k hk=>by simp at hk,λj j' l l' _ _ _ _ k hk=>by simp at hk⟩
 |.unit,_,x,cs,bs,H,_=>by
  obtain⟨rfl,rfl⟩:=H;exact⟨λ_=>[],rfl,λj l u h1 h2=>by simp[aq]at h1,λj l h1 _ k hk=>by simp at hk,λj j' l l' _ _ _ _ k hk=>by simp at hk⟩
 |.hdr,_,x,cs,bs,H,_=>by
  obtain⟨⟨A,cap,rfl⟩,rfl⟩:=H;exact⟨λ_=>[],rfl,λj l u h1 h2=>by cases j with|zero=>simp[aq]at h1 h2;subst h1;subst h2;exact⟨A,cap,rfl⟩|succ j=>simp[aq]at h1,λj l h1 _ k hk=>by simp at hk,λj j' l l' _ _ _ _ k hk=>by simp at hk⟩
 |.pair b c,pos,x,cs,bs,⟨c1,c2,b1,b2,e1,e2,h1,h2⟩,hnd=>by
  subst e1;subst e2;rw[List.nodup_append]at hnd;obtain⟨d1,f1,f2,f3,f4⟩:=gD hG h1 hnd.1;obtain⟨d2,g1,g2,g3,g4⟩:=gD hG h2 hnd.2.1;have hl1:=cn p b x.1;have hc1:=h1.len;have hsplit:∀ (j:Nat) (l:Leaf),(aq p b x.1++aq p c x.2)[j]?=some l->(j<b.cells/\(aq p b x.1)[j]?=some l)\/(b.cells<=j/\(aq p c x.2)[j-b.cells]?=some l):=by
   intro j l hj;by_cases hlt:j<b.cells
   ·rw[List.getElem?_append_left (by omega)]at hj;exact .inl ⟨hlt,hj⟩
   ·rw[List.getElem?_append_right (by omega),hl1]at hj;exact .inr ⟨by omega,hj⟩
  refine⟨λj=>if j<b.cells then d1 j else d2 (j-b.cells),by simp only[aq,List.length_append];omega,λj l u hj hu=>?_,λj l hj ho k hk=>?_,λj j' l l' hj ho hj' ho' k hk hk'=>?_⟩
  ·rcases hsplit j l hj with ⟨hlt,hj⟩|⟨hge,hj⟩
   ·rw[List.getElem?_append_left (by omega)]at hu;simp only[if_pos hlt];exact f2 j l u hj hu
   ·rw[List.getElem?_append_right (by omega),hc1]at hu;simp only[if_neg (show ¬ j<b.cells by omega)];exact g2 _ l u hj hu
  ·rcases hsplit j l hj with ⟨hlt,hj⟩|⟨hge,hj⟩
   ·simp only[if_pos hlt]at hk;exact List.mem_append_left _ (f3 j l hj ho k hk)
   ·simp only[if_neg (show ¬ j<b.cells by omega)]at hk;exact List.mem_append_right _ (g3 _ l hj ho k hk)
  ·rcases hsplit j l hj with ⟨hlt,hj⟩|⟨hge,hj⟩ <;> rcases hsplit j' l' hj' with ⟨hlt',hj'⟩|⟨hge',hj'⟩
   ·simp only[if_pos hlt]at hk;simp only[if_pos hlt']at hk';exact f4 j j' l l' hj ho hj' ho' k hk hk'
   ·simp only[if_pos hlt]at hk;simp only[if_neg (show ¬ j'<b.cells by omega)]at hk';exact absurd rfl (hnd.2.2 k (f3 j l hj ho k hk) k (g3 _ l' hj' ho' k hk'))
   ·simp only[if_neg (show ¬ j<b.cells by omega)]at hk;simp only[if_pos hlt']at hk';exact absurd rfl (hnd.2.2 k (f3 j' l' hj' ho' k hk') k (g3 _ l hj ho k hk))
   ·simp only[if_neg (show ¬ j<b.cells by omega)]at hk;simp only[if_neg (show ¬ j'<b.cells by omega)]at hk';have:=g4 _ _ l l' hj ho hj' ho' k hk hk';omega
 |.list m E e,pos,xs,cs,bs,H,hnd=>by
  cases m with
  |false =>
   rw[cA]at H;obtain⟨rfl,A,cap,rfl,h2,h3⟩:=H;refine⟨λ_=>[],rfl,λj l u h1 h4=>?_,λj l h1 _ k hk=>by simp at hk,λj j' l l' _ _ _ _ k hk=>by simp at hk⟩;cases j with
   |zero =>
    simp[aq]at h1 h4;subst h1;subst h4;exact Rd.mono hG (⟨A,cap,rfl,h2,h3⟩:Rd w G (.list false E e) xs _)
   |succ j=>simp[aq]at h1
  |true =>
   rw[ch (by simp)]at H;obtain⟨v,rfl,hO⟩:=H;refine⟨λ_=>bs,rfl,λj l u h1 h4=>?_,λj l h1 _ k hk=>hk,λj j' l l' h1 _ h3 _ k _ _=>?_⟩
   ·cases j with
    |zero =>
     simp[aq]at h1 h4;subst h1;subst h4;exact⟨hnd,OwB.shy (hO.carry hG (λ_ _=>rfl) (λ_ _=>rfl))⟩
    |succ j=>simp[aq]at h1
   ·have h7:j<1:=by simpa[aq]using (List.getElem?_eq_some_iff.1 h1).1
    have h8:j'<1:=by simpa[aq]using (List.getElem?_eq_some_iff.1 h3).1
    omega
theorem ao.reown (hV:ax V)(h:ao P V W st a w)(r:Nat)(c:bM)(bsr:Nat->List Nat)(hver:(st r).ver<c.ver)(hsh:c.sh=(st r).sh)(hlen:c.ls.length=(st r).ls.length)
  (hleaf:∀ (j:Nat) (l:Leaf) (v:Value),c.ls[j]?=some l->(W.cs r)[j]?=some v->aJ P V W st w (bsr j) l v)
  (hown:∀ (j:Nat) (l:Leaf),c.ls[j]?=some l->an l->∀ k∈bsr j,¬ W.nw k/\¬ V.prot k/\(∀ b,live st b->W.β b≠k) /\
   ∀ (r1 j1:Nat) (l1:Leaf),r1≠r->(st r1).ls[j1]?=some l1->an l1->k∉W.bs r1 j1)
  (hsep:∀ (j j':Nat) (l l':Leaf),c.ls[j]?=some l->an l->c.ls[j']?=some l'->an l'->∀ k,k∈bsr j->k∈bsr j'->j=j') :
  ao P V { W with bs:=λr' j=>if r'=r then bsr j else W.bs r' j } (ac [(r,c)] st) a w:=by
 have hlv:∀ b,live (ac [(r,c)] st) b<->live st b:=by
  intro b;rcases am r b c st with ⟨rfl,e⟩|⟨_,e⟩
  ·simp[live,e,hsh]
  ·simp[live,e]
 have hstep:cm V W { W with bs:=λr' j=>if r'=r then bsr j else W.bs r' j } st (ac [(r,c)] st) w w:=by
  refine⟨λq=>?_,λb hb=>⟨(hlv b).2 hb,rfl⟩,λ_ h=>h,λ_ _=>rfl,λ_ q j' l' h3 h4 h5=>?_⟩
  ·rcases am r q c st with ⟨rfl,e⟩|⟨hne,e⟩
   ·rw[e];exact⟨Nat.le_of_lt hver,λ_=>rfl⟩
   ·rw[e];exact⟨Nat.le_refl _,λ_=>rfl⟩
  ·rcases am r q c st with ⟨rfl,e⟩|⟨hne,e⟩
   ·rw[e]at h5;omega
   ·rw[e]at h3;exact⟨⟨l',h3,h4⟩,by simp[hne],λ_ _=>rfl⟩
 exact {
  nt:=h.nt,df:=h.df
  slots:=λt ht=>by
   rcases am r t c st with ⟨rfl,e⟩|⟨_,e⟩
   ·rw[e,hsh];exact h.slots t ht
   ·rw[e];exact h.slots t ht
  boxes:=λb hb=>by
   rcases am r b c st with ⟨rfl,e⟩|⟨_,e⟩
   ·rw[e,hsh];rcases h.boxes b hb with ⟨h1,h2⟩|h1
    ·refine .inl ⟨h1,?_⟩;rw[h2]at hlen;exact List.eq_nil_of_length_eq_zero hlen
    ·exact .inr h1
   ·rw[e];exact h.boxes b hb
  len:=λq=>by
   rcases am r q c st with ⟨rfl,e⟩|⟨_,e⟩
   ·rw[e,hlen];exact h.len q
   ·rw[e];exact h.len q
  one:=h.one
  leaf:=λq j l u h2 h3=>by
   rcases am r q c st with ⟨rfl,e⟩|⟨hne,e⟩
   ·rw[e]at h2;exact (hleaf j l u h2 h3).carry hV.ro hstep (λ_=>⟨by simp,λ_ _=>rfl⟩)
   ·rw[e]at h2;exact (h.leaf q j l u h2 h3).carry hV.ro hstep (λ_=>⟨by simp[hne],λ_ _=>rfl⟩)
  ownb:=λq j l h2 h3 k hk=>by
   rcases am r q c st with ⟨rfl,e⟩|⟨hne,e⟩
   ·rw[e]at h2;simp only[if_true]at hk;have:=hown j l h2 h3 k hk;exact⟨this.1,this.2.1,λb hb=>this.2.2.1 b ((hlv b).1 hb)⟩
   ·rw[e]at h2;simp only[hne,if_false]at hk;have:=h.ownb q j l h2 h3 k hk;exact⟨this.1,this.2.1,λb hb=>this.2.2 b ((hlv b).1 hb)⟩
  sep:=λq j l q' j' l' h2 h3 h4 h5 k hk hk'=>by
   rcases am r q c st with ⟨e0,e⟩|⟨hne,e⟩ <;> rcases am r q' c st with ⟨e1,e'⟩|⟨hne',e'⟩
   ·rw[e]at h2;rw[e']at h4;simp only[e0,if_true]at hk;simp only[e1,if_true]at hk';exact⟨e0.trans e1.symm,hsep j j' l l' h2 h3 h4 h5 k hk hk'⟩
   ·rw[e]at h2;rw[e']at h4;simp only[e0,if_true]at hk;simp only[hne',if_false]at hk';exact absurd hk' ((hown j l h2 h3 k hk).2.2.2 q' j' l' hne' h4 h5)
   ·rw[e]at h2;rw[e']at h4;simp only[hne,if_false]at hk;simp only[e1,if_true]at hk';exact absurd hk ((hown j' l' h4 h5 k hk').2.2.2 q j l hne h2 h3)
   ·rw[e]at h2;rw[e']at h4;simp only[hne,if_false]at hk;simp only[hne',if_false]at hk';exact h.sep q j l q' j' l' h2 h3 h4 h5 k hk hk'
  box:=λb hb=>h.box b ((hlv b).1 hb)
  inj:=λb b' hb hb'=>h.inj b b' ((hlv b).1 hb) ((hlv b').1 hb')
  nwlt:=h.nwlt
  os:=h.os,tape:=h.tape,output:=h.output,size:=h.size,keep:=h.keep
  fixb:=λx hx=>⟨(hlv _).2 (h.fixb x hx).1,(h.fixb x hx).2⟩
  fixt:=h.fixt }
theorem ao.reownE (hV:ax V)(h:ao P V W st a w)(r:Nat)(c:bM)(bsr:Nat->List Nat)(hrE:r≠EPO)(hver:(st r).ver<=c.ver)(hsh:c.sh=(st r).sh)(hlen:c.ls.length=(st r).ls.length)
  (hleaf:∀ (j:Nat) (l:Leaf) (v:Value),c.ls[j]?=some l->(W.cs r)[j]?=some v->aJ P V W st w (bsr j) l v)
  (hown:∀ (j:Nat) (l:Leaf),c.ls[j]?=some l->an l->∀ k∈bsr j,¬ W.nw k/\¬ V.prot k/\(∀ b,live st b->W.β b≠k) /\
   ∀ (r1 j1:Nat) (l1:Leaf),r1≠r->(st r1).ls[j1]?=some l1->an l1->k∉W.bs r1 j1)
  (hsep:∀ (j j':Nat) (l l':Leaf),c.ls[j]?=some l->an l->c.ls[j']?=some l'->an l'->∀ k,k∈bsr j->k∈bsr j'->j=j') :
  ao P V { W with bs:=λr' j=>if r'=r then bsr j else W.bs r' j } (ac [(r,c),(EPO,bN (st EPO))] st) a w /\
   (∀ q,(ac [(r,c),(EPO,bN (st EPO))] st q).sh=(st q).sh/\(st q).ver<=(ac [(r,c),(EPO,bN (st EPO))] st q).ver/\(q≠r->(ac [(r,c),(EPO,bN (st EPO))] st q).ls=(st q).ls))/\ac [(r,c),(EPO,bN (st EPO))] st r=c:=by
 have e0:ac [(r,c),(EPO,bN (st EPO))] st=ac [(r,c)] (ac [(EPO,bN (st EPO))] st):=aN _ _ _ _;generalize hS:ac [(r,c),(EPO,bN (st EPO))] st=S;rw[e0]at hS;have hr:S r=c:=by rw[<- hS,bg]
 have hq:∀ q,(S q).sh=(st q).sh/\(st q).ver<=(S q).ver/\(q≠r->(S q).ls=(st q).ls):=by
  intro q;rw[<- hS];rcases am r q c (ac [(EPO,bN (st EPO))] st) with ⟨rfl,e⟩|⟨hne,e⟩
  ·rw[e];exact⟨hsh,hver,λh=>absurd rfl h⟩
  ·rw[e];rcases am EPO q (bN (st EPO)) st with ⟨rfl,e⟩|⟨_,e⟩ <;> rw[e]
   ·exact⟨rfl,Nat.le_succ _,λ_=>rfl⟩
   ·exact⟨rfl,Nat.le_refl _,λ_=>rfl⟩
 have hE:(st EPO).ver<(S EPO).ver:=by
  rw[<- hS,aI (Ne.symm hrE),bg];exact Nat.lt_succ_self _
 refine⟨?_,hq,hr⟩;have hlv:∀ b,live S b<->live st b:=λb=>by simp[live,(hq b).1]
 have hstep:cm V W { W with bs:=λr' j=>if r'=r then bsr j else W.bs r' j } st S w w :=
  ⟨λq=>⟨(hq q).2.1,λ_=>rfl⟩,λb hb=>⟨(hlv b).2 hb,rfl⟩,λ_ h=>h,λ_ _=>rfl,λhe=>by omega⟩
 have hls:∀ q,(S q).ls.length=(st q).ls.length:=λq=>by
  by_cases hqr:q=r
  ·rw[hqr,hr,hlen]
  ·rw[(hq q).2.2 hqr]
 exact {
  nt:=h.nt,df:=h.df
  slots:=λt ht=>by rw[(hq t).1];exact h.slots t ht
  boxes:=λb hb=>by
   rw[(hq b).1];rcases h.boxes b hb with ⟨h1,h2⟩|h1
   ·refine .inl ⟨h1,List.eq_nil_of_length_eq_zero ?_⟩;rw[hls,h2];rfl
   ·exact .inr h1
  len:=λq=>by rw[hls];exact h.len q
  one:=h.one
  leaf:=λq j l u h2 h3=>by
   by_cases hqr:q=r
   ·subst hqr;rw[hr]at h2;exact (hleaf j l u h2 h3).carry hV.ro hstep (λ_=>⟨by simp,λ_ _=>rfl⟩)
   ·rw[(hq q).2.2 hqr]at h2;exact (h.leaf q j l u h2 h3).carry hV.ro hstep (λ_=>⟨by simp[hqr],λ_ _=>rfl⟩)
  ownb:=λq j l h2 h3 k hk=>by
   by_cases hqr:q=r
   ·subst hqr;rw[hr]at h2;simp only[if_true]at hk;have:=hown j l h2 h3 k hk;exact⟨this.1,this.2.1,λb hb=>this.2.2.1 b ((hlv b).1 hb)⟩
   ·rw[(hq q).2.2 hqr]at h2;simp only[hqr,if_false]at hk;have:=h.ownb q j l h2 h3 k hk;exact⟨this.1,this.2.1,λb hb=>this.2.2 b ((hlv b).1 hb)⟩
  sep:=λq j l q' j' l' h2 h3 h4 h5 k hk hk'=>by
   by_cases e0:q=r <;> by_cases e1:q'=r
   ·subst e0;subst e1;rw[hr]at h2 h4;simp only[if_true]at hk hk';exact⟨rfl,hsep j j' l l' h2 h3 h4 h5 k hk hk'⟩
   ·subst e0;rw[hr]at h2;rw[(hq q').2.2 e1]at h4;simp only[if_true]at hk;simp only[e1,if_false]at hk';exact absurd hk' ((hown j l h2 h3 k hk).2.2.2 q' j' l' e1 h4 h5)
   ·subst e1;rw[(hq q).2.2 e0]at h2;rw[hr]at h4;simp only[e0,if_false]at hk;simp only[if_true]at hk';exact absurd hk ((hown j' l' h4 h5 k hk').2.2.2 q j l e0 h2 h3)
   ·rw[(hq q).2.2 e0]at h2;rw[(hq q').2.2 e1]at h4;simp only[e0,if_false]at hk;simp only[e1,if_false]at hk';exact h.sep q j l q' j' l' h2 h3 h4 h5 k hk hk'
  box:=λb hb=>h.box b ((hlv b).1 hb)
  inj:=λb b' hb hb'=>h.inj b b' ((hlv b).1 hb) ((hlv b').1 hb')
  nwlt:=h.nwlt
  os:=h.os,tape:=h.tape,output:=h.output,size:=h.size,keep:=h.keep
  fixb:=λx hx=>⟨(hlv _).2 (h.fixb x hx).1,(h.fixb x hx).2⟩
  fixt:=h.fixt }
theorem ao.nwGrow (hV:ax V)(h:ao P V W st a w)(N:Nat->Prop)(hN:∀ k,N k->k<w.heap.size/\¬ bW V W st k):ao P V { W with nw:=λk=>W.nw k\/N k } st a w:=by
 have hstep:cm V W { W with nw:=λk=>W.nw k\/N k } st st w w:=⟨λr=>⟨Nat.le_refl _,λ_=>rfl⟩,λb hb=>⟨hb,rfl⟩,λ_ h=>.inl h,λ_ _=>rfl,λ_ _ _ l h1 h2 _=>⟨⟨l,h1,h2⟩,rfl,λ_ _=>rfl⟩⟩;exact {
  nt:=h.nt,df:=h.df,slots:=h.slots,boxes:=h.boxes,len:=h.len,one:=h.one
  leaf:=λr j l v h1 h2=>(h.leaf r j l v h1 h2).carry hV.ro hstep (λ_=>⟨rfl,λ_ _=>rfl⟩)
  ownb:=λr j l h1 h2 k hk=>⟨λhn=>hn.elim (h.ownb r j l h1 h2 k hk).1 (λhn=>(hN k hn).2 (.inr (.inr (.inr ⟨r,j,l,h1,h2,hk⟩)))),(h.ownb r j l h1 h2 k hk).2⟩
  sep:=h.sep
  box:=λb hb=>⟨λhn=>hn.elim (h.box b hb).1 (λhn=>(hN _ hn).2 (.inr (.inr (.inl ⟨b,hb,rfl⟩)))),(h.box b hb).2⟩
  inj:=h.inj
  nwlt:=λk hk=>hk.elim (h.nwlt k) (λhk=>⟨(hN k hk).1,λhp=>(hN k hk).2 (.inr (.inl hp))⟩)
  os:=h.os,tape:=h.tape,output:=h.output,size:=h.size,keep:=h.keep,fixb:=h.fixb,fixt:=h.fixt }
end
end Go.Proofs.YtmcbmojdeikcdaaGreatEv
namespace Go.Proofs.YtmcbmojdeikcdaaGreatEv
open Go Go.RowKit
def d6:List Leaf->List Leaf->List (Nat×Nat)
 |.al r j _::xs,l::ls=>(match l with|.own _ _ _ _ _=>[(r,j)]|_=>[])++d6 xs ls
 |_::xs,_::ls=>d6 xs ls
 |_,_=>[]
section
variable {P:Program} {V:Env} {st st':St} {w w':World} {a:Act}
theorem lV {x l:Leaf}{xs ls:List Leaf}(h:¬ an l):d6 (x::xs) (l::ls)=d6 xs ls:=by
 cases x <;> try rfl
 cases l <;> first|exact absurd trivial h|rfl
theorem tm {k:IntKind}{ls:List Leaf}{x:Bool×(Ty.int k).den×List Leaf}(h:aV st (.int k) ls=some x):∃ l,ls=l::x.2.2:=by
 simp only[aV]at h;split at h
 ·split at h
  ·simp only[Option.some.injEq]at h;subst h;exact⟨_,rfl⟩
  ·cases h
 ·cases h
theorem rM {ls:List Leaf}{x:Bool×Ty.bool.den×List Leaf}(h:aV st .bool ls=some x):∃ l,ls=l::x.2.2:=by
 simp only[aV]at h;split at h
 ·simp only[Option.some.injEq]at h;subst h;exact⟨_,rfl⟩
 ·cases h
theorem tn {ls:List Leaf}{x:Bool×Ty.str.den×List Leaf}(h:aV st .str ls=some x):∃ l,ls=l::x.2.2:=by
 simp only[aV]at h;split at h
 ·simp only[Option.some.injEq]at h;subst h;exact⟨_,rfl⟩
 ·cases h
theorem tp {ls:List Leaf}{x:Bool×Ty.hdr.den×List Leaf}(h:aV st .hdr ls=some x):∃ l,ls=l::x.2.2:=by
 simp only[aV]at h;split at h
 ·split at h
  ·simp only[Option.some.injEq]at h;subst h;exact⟨_,rfl⟩
  ·cases h
 ·cases h
theorem j4 {p:Bool}:∀ (b:Ty) (ls:List Leaf) (t:cq b.den),take st b ls=some t->∀ (y:b.den) (tail:List Leaf),d6 ls (aq p b y++tail)=t.kill++d6 t.rest tail
 |.pair b c,ls,t,h,y,tail=>by
  simp only[take]at h;split at h
  ·rename_i u hu;split at h
   ·rename_i v hv;simp only[Option.some.injEq]at h;subst h;simp only[aq];rw[List.append_assoc,j4 b ls u hu y.1,j4 c u.rest v hv y.2,List.append_assoc]
   ·cases h
  ·cases h
 |.unit,ls,t,h,y,tail=>by
  simp only[take,Option.some.injEq]at h;subst h;rfl
 |.list m E e,ls,t,h,y,tail=>by
  cases ls with
  |nil=>simp[take]at h
  |cons l ls =>
   cases m with
   |false =>
    simp only[take,cond_false]at h;split at h
    ·simp only[Option.some.injEq]at h;subst h;exact lV id
    ·cases h
   |true =>
    simp only[take,cond_true]at h;split at h
    ·split at h
     ·simp only[Option.map_eq_some_iff]at h;obtain⟨xs,_,rfl⟩:=h;rfl
     ·cases h
    ·simp only[Option.some.injEq]at h;subst h;rfl
    ·cases h
 |.int k,ls,t,h,y,tail=>scal (b:=.int k) h tm (l':=.int k y) id
 |.bool,ls,t,h,y,tail=>scal (b:=.bool) h rM (l':=.bool y) id
 |.str,ls,t,h,y,tail=>scal (b:=.str) h tn (l':=.str y) id
 |.hdr,ls,t,h,y,tail=>scal (b:=.hdr) h tp (l':=.hdr y) id
where
 scal {b:Ty} {ls:List Leaf} {t:cq b.den} {l':Leaf} {tail:List Leaf} (h:(aV st b ls).map (λx=>(⟨false,x.2.1,[],[],x.2.2⟩:cq b.den))=some t)
   (H:∀ {ls:List Leaf} {x:Bool×b.den×List Leaf},aV st b ls=some x->∃ l,ls=l::x.2.2) (hl:¬ an l'):d6 ls ([l']++tail)=t.kill++d6 t.rest tail:=by
  simp only[Option.map_eq_some_iff]at h;obtain⟨x,hx,rfl⟩:=h;obtain⟨l,rfl⟩:=H hx;exact lV hl
theorem xb {W W':Wit}{bs:List Nat}{l:Leaf}{v:Value}(ho:an l)(hn:W'.nw=W.nw)(h:aJ P V W st w bs l v):aJ P V W' st' w bs l v:=by
 cases l <;> simp only[an]at ho;exact OwH.carry h (λk hk=>by
  rcases hk with hk|hk
  ·exact .inl (by rw[hn];exact hk)
  ·exact .inr hk) (λ_ _=>rfl) (λ_ _=>rfl)
theorem ut {S:St}{x l:Leaf}{xs ls:List Leaf}(h:¬ an l):ac (bS S (x::xs) (l::ls)) S=ac (bS S xs ls) S:=by
 cases x <;> try rfl
 cases l <;> first|exact absurd trivial h|rfl
theorem iM {x:Nat×Nat}{l:List (Nat×Nat)}(h:aX (x::l)=true):x∉l/\aX l=true:=by
 simp only[aX,Bool.and_eq_true,Bool.not_eq_true',List.any_eq_false]at h;exact⟨λhm=>by have:=h.1 x hm;simp at this,h.2⟩
theorem xA (hV:ax V){W:Wit}{S:St}(h:ao P V W S a w):∀ (xl ls:List Leaf) (cs:List Value) (bsd:Nat->List Nat),aX (d6 xl ls)=true->(∀ x∈d6 xl ls,x.1≠EPO)->xl.length=cs.length->ls.length=cs.length ->
  (∀ (i r j n:Nat) (l:Leaf) (u:Value),xl[i]?=some (.al r j n)->ls[i]?=some l->an l->cs[i]?=some u->(W.cs r)[j]?=some u) ->
  (∀ x∈d6 xl ls,∀ l,(S x.1).ls[x.2]?=some l->¬ an l) ->
  (∀ (i:Nat) (l:Leaf) (u:Value),ls[i]?=some l->cs[i]?=some u->aJ P V W S w (bsd i) l u) ->
  (∀ (i:Nat) (l:Leaf),ls[i]?=some l->an l->∀ k∈bsd i,¬ bW V W S k) ->
  (∀ (i i':Nat) (l l':Leaf),ls[i]?=some l->an l->ls[i']?=some l'->an l'->∀ k,k∈bsd i->k∈bsd i'->i=i') ->
  ∃ W',ao P V W' (ac (bS S xl ls) S) a w/\W'.cs=W.cs/\W'.β=W.β/\W'.nw=W.nw/\(∀ q,(ac (bS S xl ls) S q).sh=(S q).sh/\(S q).ver<=(ac (bS S xl ls) S q).ver) /\
   (∀ (q i:Nat),(q,i)∉d6 xl ls->(ac (bS S xl ls) S q).ls[i]?=(S q).ls[i]?/\W'.bs q i=W.bs q i) /\
   (∀ k,bW V W' (ac (bS S xl ls) S) k->bW V W S k\/∃ i l,ls[i]?=some l/\an l/\k∈bsd i)
 |[],ls,cs,bsd,_,_,hx,hl,_,_,_,_,_=>⟨W,h,rfl,rfl,rfl,λ_=>⟨rfl,Nat.le_refl _⟩,λ_ _ _=>⟨rfl,rfl⟩,λk hk=>.inl hk⟩
 |x::xs,[],cs,bsd,_,_,hx,hl,_,_,_,_,_=>by simp at hx hl;omega
 |x::xs,l::ls,[],bsd,_,_,hx,hl,_,_,_,_,_=>by simp at hx
 |x::xs,l::ls,u::cs,bsd,hd,hnE,hx,hl,hcs,hno,hleaf,hfree,hsep=>by
  have htail:aX (d6 xs ls)=true:=by
   cases x with
   |al r j n =>
    cases l with
    |own p hh E e ys=>exact (iM hd).2
    |_=>exact hd
   |_=>exact hd
  have hsub:∀ z∈d6 xs ls,z∈d6 (x::xs) (l::ls):=by
   intro z hz;cases x with
   |al r j n=>exact List.mem_append_right _ hz
   |_=>exact hz
  obtain⟨W1,h1,e1,e2,e3,e4,e5,e6⟩:=xA hV h xs ls cs (λi=>bsd (i+1)) htail (λz hz=>hnE z (hsub z hz)) (by simpa using hx) (by simpa using hl)
   (λi r j n l' u' g1 g2 g3 g4=>hcs (i+1) r j n l' u' (by simpa using g1) (by simpa using g2) g3 (by simpa using g4))
   (λz hz=>hno z (hsub z hz)) (λi l' u' g1 g2=>hleaf (i+1) l' u' (by simpa using g1) (by simpa using g2))
   (λi l' g1 g2=>hfree (i+1) l' (by simpa using g1) g2)
   (λi i' l1 l2 g1 g2 g3 g4 k g5 g6=>by have:=hsep (i+1) (i'+1) l1 l2 (by simpa using g1) g2 (by simpa using g3) g4 k g5 g6;omega)
  by_cases hs:¬ an l\/(∀ r j n,x≠.al r j n)
  ·have hlk:ac (bS S (x::xs) (l::ls)) S=ac (bS S xs ls) S/\d6 (x::xs) (l::ls)=d6 xs ls:=by
    rcases hs with hs|hs
    ·exact⟨ut hs,lV hs⟩
    ·cases x with
     |al r j n=>exact absurd rfl (hs r j n)
     |_=>exact⟨rfl,rfl⟩
   rw[hlk.1,hlk.2];exact⟨W1,h1,e1,e2,e3,e4,e5,λk hk=>(e6 k hk).imp id λ⟨i,l',g1,g2,g3⟩=>⟨i+1,l',by simpa using g1,g2,g3⟩⟩
  ·simp only[not_or,Classical.not_not]at hs;obtain⟨hlo,hxa⟩:=hs;obtain⟨r,j,n,rfl⟩:∃ r j n,x=.al r j n:=by
    cases x with
    |al r j n=>exact⟨r,j,n,rfl⟩
    |_=>exact absurd (λ_ _ _ h=>by cases h) hxa
   obtain⟨p,hh,E,e,ys,rfl⟩:∃ p hh E e ys,l=.own p hh E e ys:=by
    cases l <;> simp only[an]at hlo;exact⟨_,_,_,_,_,rfl⟩
   have hpl:d6 (.al r j n::xs) (.own p hh E e ys::ls)=(r,j)::d6 xs ls:=rfl;rw[hpl]at hd hno;obtain⟨hd1,hd2⟩:=iM hd;have hv:=hcs 0 r j n _ u rfl rfl trivial rfl;have hlk:ac (bS S (.al r j n::xs) (.own p hh E e ys::ls)) S=ac [(r,⟨(ac (bS S xs ls) S r).ver,(ac (bS S xs ls) S r).sh,aQ (ac (bS S xs ls) S r).ls j (.own p hh E e ys)⟩),(EPO,bN (ac (bS S xs ls) S EPO))] (ac (bS S xs ls) S):=bm [_,_] _ _;have hleaf0:aJ P V W1 (ac (bS S xs ls) S) w (bsd 0) (.own p hh E e ys) u:=xb trivial e3 (hleaf 0 _ u rfl rfl);have hfree0:∀ k∈bsd 0,¬ bW V W1 (ac (bS S xs ls) S) k:=λk hk hu=>by
    rcases e6 k hu with hu|⟨i,l',g1,g2,g3⟩
    ·exact hfree 0 _ rfl trivial k hk hu
    ·have:=hsep 0 (i+1) _ l' rfl trivial (by simpa using g1) g2 k hk g3;omega
   have hother:∀ (i:Nat) (l':Leaf),i≠j->(aQ (ac (bS S xs ls) S r).ls j (.own p hh E e ys))[i]?=some l'->(ac (bS S xs ls) S r).ls[i]?=some l':=by
    intro i l' hne hl';rcases aP _ _ _ _ _ hl' with ⟨rfl,_,_⟩|⟨_,hl'⟩
    ·exact absurd rfl hne
    ·exact hl'
   have hset:∀ (l':Leaf),(aQ (ac (bS S xs ls) S r).ls j (.own p hh E e ys))[j]?=some l'->l'=.own p hh E e ys:=by
    intro l' hl';rcases aP _ _ _ _ _ hl' with ⟨_,rfl,_⟩|⟨hne,_⟩
    ·rfl
    ·exact absurd rfl hne
   have hrE:r≠EPO:=hnE (r,j) (by rw[hpl];exact List.mem_cons_self ..);obtain⟨h2,h2q,h2r⟩:=h1.reownE hV r ⟨(ac (bS S xs ls) S r).ver,(ac (bS S xs ls) S r).sh,aQ (ac (bS S xs ls) S r).ls j (.own p hh E e ys)⟩ (λi=>if i=j then bsd 0 else W1.bs r i) hrE (Nat.le_refl _) rfl (by simp[aQ])
    (λi l' v' g1 g2=>by
     by_cases hij:i=j
     ·subst hij;obtain rfl:=hset l' g1;rw[e1,hv]at g2;simp only[Option.some.injEq]at g2;subst g2;simp only[if_true];exact hleaf0
     ·simp only[if_neg hij];exact h1.leaf r i l' v' (hother i l' hij g1) g2)
    (λi l' g1 g2 k hk=>by
     by_cases hij:i=j
     ·subst hij;simp only[if_true]at hk;have hu:=hfree0 k hk;simp only[bW,not_or,not_exists,not_and]at hu;exact⟨hu.1,hu.2.1,hu.2.2.1,λr1 j1 l1 _ g3 g4 g5=>hu.2.2.2 r1 j1 l1 g3 g4 g5⟩
     ·simp only[if_neg hij]at hk;have hl':=hother i l' hij g1;have h9:=h1.ownb r i l' hl' g2 k hk;exact⟨h9.1,h9.2.1,h9.2.2,λr1 j1 l1 hne g3 g4 g5=>hne (h1.sep r i l' r1 j1 l1 hl' g2 g3 g4 k hk g5).1.symm⟩)
    (λi i' l1 l2 g1 g2 g3 g4 k hk hk'=>by
     by_cases hij:i=j <;> by_cases hij':i'=j
     ·omega
     ·subst hij;simp only[if_true]at hk;simp only[if_neg hij']at hk';exact absurd (.inr (.inr (.inr ⟨r,i',l2,hother i' l2 hij' g3,g4,hk'⟩))) (hfree0 k hk)
     ·subst hij';simp only[if_true]at hk';simp only[if_neg hij]at hk;exact absurd (.inr (.inr (.inr ⟨r,i,l1,hother i l1 hij g1,g2,hk⟩))) (hfree0 k hk')
     ·simp only[if_neg hij]at hk;simp only[if_neg hij']at hk';exact (h1.sep r i l1 r i' l2 (hother i l1 hij g1) g2 (hother i' l2 hij' g3) g4 k hk hk').2)
   rw[hlk];refine⟨_,h2,e1,e2,e3,λq=>?_,λq i hq=>?_,λk hk=>?_⟩
   ·exact⟨(h2q q).1.trans (e4 q).1,Nat.le_trans (e4 q).2 (h2q q).2.1⟩
   ·rw[hpl]at hq;simp only[List.mem_cons,not_or]at hq;by_cases hqr:q=r
    ·subst hqr;rw[h2r];have hij:j≠i:=λe0=>hq.1 (by rw[e0])
     simp only[aQ];rw[List.getElem?_set_ne hij];refine⟨(e5 q i hq.2).1,?_⟩;simp only[if_true,if_neg (Ne.symm hij)];exact (e5 q i hq.2).2
    ·rw[(h2q q).2.2 hqr];refine⟨(e5 q i hq.2).1,?_⟩;show (if q=r then _ else W1.bs q i)=_;rw[if_neg hqr];exact (e5 q i hq.2).2
   ·rcases hk with hk|hk|⟨b,hb,hk⟩|⟨q,i,l',g1,g2,g3⟩
    ·exact .inl (.inl (by rw[<- e3];exact hk))
    ·exact .inl (.inr (.inl hk))
    ·refine (e6 k (.inr (.inr (.inl ⟨b,?_,hk⟩)))).imp id λ⟨i,l',g1,g2,g3⟩=>⟨i+1,l',by simpa using g1,g2,g3⟩
     exact (gC (λq=>(h2q q).1) b).1 hb
    ·by_cases hq:q=r
     ·subst hq;rw[h2r]at g1;simp only[if_true]at g3;by_cases hij:i=j
      ·subst hij;simp only[if_true]at g3;exact .inr ⟨0,_,rfl,trivial,g3⟩
      ·simp only[if_neg hij]at g3;exact (e6 k (.inr (.inr (.inr ⟨q,i,l',hother i l' hij g1,g2,g3⟩)))).imp id λ⟨i,l',g1,g2,g3⟩=>⟨i+1,l',by simpa using g1,g2,g3⟩
     ·rw[(h2q q).2.2 hq]at g1;simp only[if_neg hq]at g3;exact (e6 k (.inr (.inr (.inr ⟨q,i,l',g1,g2,g3⟩)))).imp id λ⟨i,l',g1,g2,g3⟩=>⟨i+1,l',by simpa using g1,g2,g3⟩
end
end Go.Proofs.YtmcbmojdeikcdaaGreatEv
namespace Go.Proofs.YtmcbmojdeikcdaaGreatEv
open Go Go.RowKit
def PK.isIop:PK->Bool
 |.iop _=>true
 |_=>false
section
variable {P:Program} {V:Env} {Γ:List Ctr} {st st':St} {w w':World} {a:Act}
theorem jR:∀ {a b:List (Nat×Nat)},aX (a++b)=true->aX a=true/\aX b=true/\∀ x∈a,x∉b
 |[],b,h=>⟨rfl,h,by simp⟩
 |x::a,b,h=>by
  obtain⟨h1,h2⟩:=iM h;obtain⟨h3,h4,h5⟩:=jR h2;refine⟨?_,h4,λy hy hb=>?_⟩
  ·simp only[aX,Bool.and_eq_true,Bool.not_eq_true',List.any_eq_false];refine⟨λy hy he=>h1 (List.mem_append_left _ ?_),h3⟩;obtain⟨e1,e2⟩:x.1=y.1/\x.2=y.2:=by simpa using he
   rw[show x=y from Prod.ext e1 e2];exact hy
  ·rcases List.mem_cons.1 hy with rfl|hy
   ·exact h1 (List.mem_append_right _ hb)
   ·exact h5 y hy hb
theorem ja {p:Bool}:∀ (b:Ty) (ls:List Leaf) (t:cq b.den),take st b ls=some t->∀ (y:b.den) (i r j n:Nat) (l:Leaf),ls[i]?=some (.al r j n)->(aq p b y)[i]?=some l->an l->(st r).ver=n
 |.pair b c,ls,t,h,y,i,r,j,n,l,h1,h2,h3=>by
  simp only[take]at h;split at h
  ·rename_i u hu;split at h
   ·rename_i v hv;simp only[aq]at h2;have hl:=cn p b y.1;by_cases hi:i<b.cells
    ·rw[List.getElem?_append_left (by omega)]at h2;exact ja b ls u hu y.1 i r j n l h1 h2 h3
    ·rw[List.getElem?_append_right (by omega),hl]at h2;have hr:=take_rest b ls u hu;refine ja c u.rest v hv y.2 (i-b.cells) r j n l ?_ h2 h3;rw[hr,List.getElem?_drop,show b.cells+(i-b.cells)=i by omega];exact h1
   ·cases h
  ·cases h
 |.list m E e,ls,t,h,y,i,r,j,n,l,h1,h2,h3=>by
  cases m with
  |false =>
   cases i with
   |zero=>simp[aq]at h2;subst h2;exact h3.elim
   |succ i=>simp[aq]at h2
  |true =>
   cases i with
   |succ i=>simp[aq]at h2
   |zero =>
    cases ls with
    |nil=>simp at h1
    |cons l' ls =>
     simp only[List.getElem?_cons_zero,Option.some.injEq]at h1;subst h1;simp only[take,cond_true]at h;split at h
     ·rename_i hd;exact (ey hd (by simp)).1
     ·cases h
 |.int k,ls,t,h,y,i,r,j,n,l,h1,h2,h3=>by
  cases i with
  |zero=>simp[aq]at h2;subst h2;exact h3.elim
  |succ i=>simp[aq]at h2
 |.bool,ls,t,h,y,i,r,j,n,l,h1,h2,h3=>by
  cases i with
  |zero=>simp[aq]at h2;subst h2;exact h3.elim
  |succ i=>simp[aq]at h2
 |.str,ls,t,h,y,i,r,j,n,l,h1,h2,h3=>by
  cases i with
  |zero=>simp[aq]at h2;subst h2;exact h3.elim
  |succ i=>simp[aq]at h2
 |.hdr,ls,t,h,y,i,r,j,n,l,h1,h2,h3=>by
  cases i with
  |zero=>simp[aq]at h2;subst h2;exact h3.elim
  |succ i=>simp[aq]at h2
 |.unit,ls,t,h,y,i,r,j,n,l,h1,h2,h3=>by simp[aq]at h2
where
 take_rest:∀ (b:Ty) (ls:List Leaf) (t:cq b.den),take st b ls=some t->t.rest=ls.drop b.cells
  |.pair b c,ls,t,h=>by
   simp only[take]at h;split at h
   ·rename_i u hu;split at h
    ·rename_i v hv;simp only[Option.some.injEq]at h;subst h;show v.rest=_;rw[take_rest c u.rest v hv,take_rest b ls u hu,List.drop_drop];rfl
    ·cases h
   ·cases h
  |.unit,ls,t,h=>by
   simp only[take,Option.some.injEq]at h;subst h;rfl
  |.list m E e,ls,t,h=>by
   cases ls with
   |nil=>simp[take]at h
   |cons l ls =>
    cases m with
    |false =>
     simp only[take,cond_false]at h;split at h
     ·simp only[Option.some.injEq]at h;subst h;rfl
     ·cases h
    |true =>
     simp only[take,cond_true]at h;split at h
     ·split at h
      ·simp only[Option.map_eq_some_iff]at h;obtain⟨xs,_,rfl⟩:=h;rfl
      ·cases h
     ·simp only[Option.some.injEq]at h;subst h;rfl
     ·cases h
  |.int k,ls,t,h=>sc (b:=.int k) h tm rfl
  |.bool,ls,t,h=>sc (b:=.bool) h rM rfl
  |.str,ls,t,h=>sc (b:=.str) h tn rfl
  |.hdr,ls,t,h=>sc (b:=.hdr) h tp rfl
 sc {b:Ty} {ls:List Leaf} {t:cq b.den} (h:(aV st b ls).map (λx=>(⟨false,x.2.1,[],[],x.2.2⟩:cq b.den))=some t)
   (H:∀ {ls:List Leaf} {x:Bool×b.den×List Leaf},aV st b ls=some x->∃ l,ls=l::x.2.2) (h1:b.cells=1):t.rest=ls.drop b.cells:=by
  simp only[Option.map_eq_some_iff]at h;obtain⟨x,hx,rfl⟩:=h;obtain⟨l,rfl⟩:=H hx;rw[h1];rfl
theorem uu {agg:Bool}{v:Value}{c1 c2:List Value}(h1:cV agg v c1)(h2:cV agg v c2):c1=c2:=by
 unfold cV at h1 h2;cases agg with
 |true =>
  simp only[if_true]at h1 h2;rw[h1]at h2;simpa using h2
 |false =>
  simp only[Bool.false_eq_true,if_false]at h1 h2;rw[h1,h2]
theorem pq (hV:ax V){W0 W:Wit}{S0 S:St}{w0:World}{G:Nat->Prop}{p:Bool}(hcs:W.cs=W0.cs)(hG:∀ k,G k->gd V W p k)(h:ao P V W S a w) :
  ∀ (ps:List PK) (xs:List (aG×List Leaf)) (vs:List Value) (g:Got (ab ps)) (o:aj ps) (oss:List (List Nat)),fV P V W0 S0 w0 xs vs->a7 (bT Γ S0) ps xs=some g->ps.any PK.isIop=false ->
  dD w G ps o vs oss->aX g.kill=true->(∀ x∈g.kill,x.1≠EPO)->(∀ x∈g.kill,∀ l,(S x.1).ls[x.2]?=some l->¬ an l)->(∀ k∈oss.flatten,¬ bW V W S k)->oss.flatten.Nodup ->
  ∃ W',ao P V W' (ac (aF S p ps xs o) S) a w/\W'.cs=W.cs/\W'.β=W.β/\W'.nw=W.nw/\(∀ q,(ac (aF S p ps xs o) S q).sh=(S q).sh/\(S q).ver<=(ac (aF S p ps xs o) S q).ver) /\
   (∀ q i,(q,i)∉g.kill->(ac (aF S p ps xs o) S q).ls[i]?=(S q).ls[i]?/\W'.bs q i=W.bs q i)/\(∀ k,bW V W' (ac (aF S p ps xs o) S) k->bW V W S k\/k∈oss.flatten)
 |[],xs,vs,g,o,oss,_,_,_,_,_,_,_,_,_=>⟨W,h,rfl,rfl,rfl,λ_=>⟨rfl,Nat.le_refl _⟩,λ_ _ _=>⟨rfl,rfl⟩,λk hk=>.inl hk⟩
 |pk::ps,[],vs,g,o,oss,_,hg,_,_,_,_,_,_,_=>by simp[a7]at hg
 |pk::ps,x::xs,vs,g,o,oss,hx,hg,hp,ho,hd,hnE,hno,hfree,hnd=>by
  obtain⟨v,vs',cs,rfl,hs,hl,hrest⟩:=hx;simp only[a7]at hg;split at hg
  ·rename_i g1 hg1;split at hg
   ·rename_i g2 hg2;simp only[Option.some.injEq]at hg;subst hg;simp only[List.any_cons,Bool.or_eq_false_iff]at hp;obtain⟨hd1,hd2,hd3⟩:=jR hd;have other:∀ (o':aj ps) (b:List Nat) (bs:List (List Nat)),oss=b::bs->b=[]->dD w G ps o' vs' bs->aF S p (pk::ps) (x::xs) o=aF S p ps xs o' ->
      ∃ W',ao P V W' (ac (aF S p (pk::ps) (x::xs) o) S) a w/\W'.cs=W.cs/\W'.β=W.β/\W'.nw=W.nw/\(∀ q,(ac (aF S p (pk::ps) (x::xs) o) S q).sh=(S q).sh/\(S q).ver<=(ac (aF S p (pk::ps) (x::xs) o) S q).ver) /\
       (∀ q i,(q,i)∉g1.kill++g2.kill->(ac (aF S p (pk::ps) (x::xs) o) S q).ls[i]?=(S q).ls[i]?/\W'.bs q i=W.bs q i)/\(∀ k,bW V W' (ac (aF S p (pk::ps) (x::xs) o) S) k->bW V W S k\/k∈oss.flatten):=by
     intro o' b bs e1 e2 ho' e3;subst e1;subst e2;rw[e3];obtain⟨W1,f1,f2,f3,f4,f5,f6,f7⟩:=pq hV hcs hG h ps xs vs' g2 o' bs hrest hg2 hp.2 ho' hd2 (λz hz=>hnE z (List.mem_append_right _ hz)) (λz hz=>hno z (List.mem_append_right _ hz)) (λk hk=>hfree k (by simpa using hk)) (by simpa using hnd);exact⟨W1,f1,f2,f3,f4,f5,λq i hq=>f6 q i (λhm=>hq (List.mem_append_right _ hm)),λk hk=>(f7 k hk).imp id (λhm=>by simpa using hm)⟩
    cases pk with
    |io b =>
     match oss,ho with
     |ob::bs,⟨ho1,ho2⟩ =>
      simp only[List.flatten_cons]at hnd hfree;rw[List.nodup_append]at hnd;obtain⟨W1,f1,f2,f3,f4,f5,f6,f7⟩:=pq hV hcs hG h ps xs vs' g2 o.2 bs hrest hg2 hp.2 ho2 hd2 (λz hz=>hnE z (List.mem_append_right _ hz)) (λz hz=>hno z (List.mem_append_right _ hz)) (λk hk=>hfree k (List.mem_append_right _ hk)) hnd.2.1;simp only[bT,bc]at hg1;cases hb:decide (x.1=be b.isAgg) with
      |false=>simp[hb]at hg1
      |true =>
       rw[hb]at hg1;simp only[cond_true,Option.map_eq_some_iff]at hg1;obtain⟨t,ht,rfl⟩:=hg1;rw[of_decide_eq_true hb]at hs;unfold mB at ho1;rw[if_neg (by simp)]at ho1;obtain⟨cs',hv',hm⟩:=ho1;have:=uu hv' (fC hs);subst this;obtain⟨bsd,m1,m2,m3,m4⟩:=gD (P:=P) (V:=V) (W:=W1) (st:=ac (aF S p ps xs o.2) S) (p:=p) (λk hk=>by
        rcases hG k hk with hk|hk
        ·exact .inl (by rw[f4];exact hk)
        ·exact .inr hk) hm hnd.1
       unfold bZ at ht;split at ht
       ·rename_i p0 x0 f0 k0 ht0;simp only[Option.some.injEq]at ht;subst ht;have hpl:=j4 (p:=p) b x.2 _ ht0 o.1 [];simp only[List.append_nil]at hpl;have hpl:d6 x.2 (aq p b o.1)=k0:=by
         rw[hpl];show k0++d6 [] []=k0;simp[d6]
        obtain⟨W2,q1,q2,q3,q4,q5,q6,q7⟩:=xA hV f1 x.2 (aq p b o.1) cs' bsd (by rw[hpl];exact hd1) (λz hz=>hnE z (List.mem_append_left _ (by rw[hpl]at hz;exact hz))) hl.length m1
         (λi r j n l u g3 g4 g5 g6=>by
          have h5:=(hl.at_ i _ u g3 g6).1;rw[f2,hcs];exact h5.2 (ja b x.2 _ ht0 o.1 i r j n l g3 g4 g5))
         (λz hz l hzl=>by
          rw[hpl]at hz;rw[(f6 z.1 z.2 (hd3 z hz)).1]at hzl;exact hno z (List.mem_append_left _ hz) l hzl)
         m2
         (λi l g3 g4 k hk hu=>by
          have hk2:=m3 i l g3 g4 k hk;rcases f7 k hu with hu|hu
          ·exact hfree k (List.mem_append_left _ hk2) hu
          ·exact hnd.2.2 k hk2 k hu rfl) m4
        have hlk:ac (aF S p (.io b::ps) (x::xs) o) S=ac (bS (ac (aF S p ps xs o.2) S) x.2 (aq p b o.1)) (ac (aF S p ps xs o.2) S):=bm _ _ _;rw[hlk];rw[hpl]at q6;refine⟨W2,q1,q2.trans f2,q3.trans f3,q4.trans f4,λq=>⟨(q5 q).1.trans (f5 q).1,Nat.le_trans (f5 q).2 (q5 q).2⟩,λq i hq=>?_,λk hk=>?_⟩
        ·simp only[List.mem_append,not_or]at hq;exact⟨(q6 q i hq.1).1.trans (f6 q i hq.2).1,(q6 q i hq.1).2.trans (f6 q i hq.2).2⟩
        ·rcases q7 k hk with hk|⟨i,l,g3,g4,g5⟩
         ·exact (f7 k hk).imp id (λhm=>List.mem_append_right _ hm)
         ·exact .inr (List.mem_append_left _ (m3 i l g3 g4 k g5))
       ·cases ht
    |iop b=>simp[PK.isIop]at hp
    |rd b =>
     match oss,ho with
     |ob::bs,⟨ho1,ho2⟩=>exact other o ob bs rfl ho1 ho2 rfl
    |own b =>
     match oss,ho with
     |ob::bs,⟨ho1,ho2⟩=>exact other o ob bs rfl ho1 ho2 rfl
    |rref b =>
     match oss,ho with
     |ob::bs,⟨ho1,ho2⟩=>exact other o ob bs rfl ho1 ho2 rfl
    |rref2 b =>
     match oss,ho with
     |ob::bs,⟨ho1,ho2⟩=>exact other o ob bs rfl ho1 ho2 rfl
    |fn As B =>
     match oss,ho with
     |ob::bs,⟨ho1,ho2⟩=>exact other o ob bs rfl ho1 ho2 rfl
    |clo f cs' =>
     match oss,ho with
     |ob::bs,⟨ho1,ho2⟩=>exact other o ob bs rfl ho1 ho2 rfl
    |hol b cc off =>
     match oss,ho with
     |ob::bs,⟨ho1,ho2⟩=>exact other o ob bs rfl ho1 ho2 rfl
   ·cases hg
  ·cases hg
end
end Go.Proofs.YtmcbmojdeikcdaaGreatEv
