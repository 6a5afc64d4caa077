/- slices.DeleteFunc: from what its walk says to its contract; the headers of a copy. -/
import Derived.Test.YthgnfidnmnkeaaaGreatEvQ
namespace Go.Proofs.YthgnfidnmnkeaaaGreatEv
open Go Go.RowKit
def eQ (s:Nat)(del:Nat→Bool)(flat:List Value):Nat→List Value
 |0=>[]
 |j+1=>eQ s del flat j++(if del j=true then [] else (flat.drop (j*s)).take s)
def c7 (del:Nat→Bool):Nat→Nat
 |0=>0
 |j+1=>c7 del j+(if del j=true then 0 else 1)
theorem pD {α:Type}{φ:α×Unit→Option Bool}:∀ {xs ys:List α},kA φ xs=some ys→(∀ x∈xs,∃ b,φ (x,())=some b)∧ys=xs.filter (fun x=>!decide (φ (x,())=some true))
 |[],ys,h=>by
  simp only[kA,Option.some.injEq]at h
  subst h
  exact⟨by simp,rfl⟩
 |x::xs,ys,h=>by
  simp only[kA]at h
  obtain⟨b,hb,h⟩:=Option.bind_eq_some_iff.1 h
  obtain⟨zs,hz,rfl⟩:=Option.map_eq_some_iff.1 h
  obtain⟨h1,h2⟩:=pD hz
  subst h2
  refine⟨fun y hy=>?_,?_⟩
  ·rcases List.mem_cons.1 hy with rfl|hy
   ·exact⟨b,hb⟩
   ·exact h1 y hy
  ·cases b <;> simp[hb]
theorem mU {f g:Nat→List Nat}(h:∀ j,(f j).Sublist (g j)):∀ l:List Nat,(l.flatMap f).Sublist (l.flatMap g)
 |[]=>List.Sublist.refl _
 |a::l=>by
  rw[List.flatMap_cons,List.flatMap_cons]
  exact (h a).append (mU h l)
theorem wj {w:World}{G:Nat→Prop}{e:Ty}{xs:List e.den}{flat:List Value}{B:List Nat}(H:Els w G e xs flat B)(p:e.den→Bool)(del:Nat→Bool)(hdel:∀ (j:Nat) (x:e.den),xs[j]?=some x→del j=p x) :
  ∃ B',Els w G e (xs.filter fun x=>!p x) (eQ e.cells del flat xs.length) B'∧B'.Sublist B∧(xs.filter fun x=>!p x).length=c7 del xs.length:=by
 obtain⟨bss,hB,hx⟩:=H.to
 have main:∀ j,j≤xs.length→Els w G e ((xs.take j).filter fun x=>!p x) (eQ e.cells del flat j) ((List.range j).flatMap fun i=>if del i=true then [] else bss i)∧((xs.take j).filter fun x=>!p x).length=c7 del j:=by
  intro j
  induction j with
  |zero=>intro _;exact⟨⟨rfl,rfl⟩,rfl⟩
  |succ j ih =>
   intro hj
   have hj':j<xs.length:=by omega
   obtain⟨h1,h2⟩:=ih (by omega)
   obtain⟨c,h3,h4⟩:=hx j xs[j] (List.getElem?_eq_getElem hj')
   have hd:=hdel j xs[j] (List.getElem?_eq_getElem hj')
   have hc:(flat.drop (j*e.cells)).take e.cells=c:=by
    refine List.ext_getElem? fun i=>?_
    rw[List.getElem?_take]
    split
    ·rename_i hi
     have hi':i<c.length:=by rw[h3.len];exact hi
     rw[List.getElem?_drop,h4 i c[i] (List.getElem?_eq_getElem hi'),List.getElem?_eq_getElem hi']
    ·rename_i hi
     exact (List.getElem?_eq_none (by rw[h3.len];omega)).symm
   rw[List.take_add_one,List.getElem?_eq_getElem hj',List.filter_append,List.range_succ,List.flatMap_append,List.length_append]
   simp only[eQ,c7,List.flatMap_singleton,Option.toList_some,hc]
   cases hdj:del j with
   |true =>
    rw[hdj]at hd
    simp only[if_true,List.append_nil,List.filter_cons,← hd,Bool.not_true,Bool.false_eq_true,if_false,List.filter_nil,List.length_nil]
    exact⟨h1,h2⟩
   |false =>
    rw[hdj]at hd
    simp only[Bool.false_eq_true,if_false,List.filter_cons,← hd,Bool.not_false,if_true,List.filter_nil,List.length_cons,List.length_nil,h2]
    exact⟨h1.append ⟨c,bss j,[],[],by simp,by simp,h3,rfl,rfl⟩,trivial⟩
 obtain⟨h1,h2⟩:=main xs.length (Nat.le_refl _)
 rw[List.take_length]at h1 h2
 refine⟨_,h1,?_,h2⟩
 rw[hB]
 exact mU (fun j=>by split <;> simp) _
structure oZ (P:Program) (f idx:FuncId) (E:TypeId) (s:Nat):Prop where
 none_:∀ (w:World) (v0 fv:Value) (n:Nat) (flat:List Value),Row w E s v0 n flat→Calls P idx #[v0,fv] w (fun e w'=>e=.returned (.int .i64 (-1))∧Below w.heap.size w w') →
  Calls P f #[v0,fv] w fun e w'=>e=.returned v0∧Below w.heap.size w w'
 some_:∀ (w:World) (g n cap:Nat) (flat:List Value) (fi:FuncId) (caps:Array Value) (del:Nat→Bool) (p0:Nat),Row w E s (.slice (some ⟨g,0,none⟩) n cap) n flat→(∀ u∈flat,u.oneCell'=true)→fb P fi→p0<n→del p0=true→(∀ j,j<p0→del j=false) →
  (∀ w1:World,w.heap.size≤w1.heap.size→(∀ k,k<w.heap.size→k≠g→w1.heap[k]?=w.heap[k]?)→∀ j,j<n→Calls P fi (#[.agg ((flat.drop (j*s)).take s).toArray]++caps) w1 (fun e w2=>e=.returned (.bool (del j))∧Below w1.heap.size w1 w2)) →
  Calls P idx #[.slice (some ⟨g,0,none⟩) n cap,.func (.func fi) #[] caps] w (fun e w'=>e=.returned (.int .i64 p0)∧Below w.heap.size w w') →
  Calls P f #[.slice (some ⟨g,0,none⟩) n cap,.func (.func fi) #[] caps] w fun e w'=>∃ v',e=.returned v'∧Row w' E s v' (c7 del n) (eQ s del flat n)∧w.grownBy w' (some g)∧v'.ownBlock=some g
def mw {α β:Type}(xs:List α)(φ:α×Unit→Option Bool)(o:Option ((Int×Unit)×β)):Prop :=
 ((∀ x∈xs,φ (x,())=some false)∧∃ u,o=some ((-1,()),u)) ∨
 ∃ p x u,xs[p]?=some x∧φ (x,())=some true∧(∀ j y,j<p→xs[j]?=some y→φ (y,())=some false)∧o=some ((((p:Nat):Int),()),u)
theorem w9 {A A':Type}(h:A=A')(cv:A→A')(hcv:∀ x,HEq x (cv x))(xs:List A):HEq xs (xs.map cv):=by
 subst h
 have:cv=id:=funext fun x=>(eq_of_heq (hcv x)).symm
 subst this
 simp
theorem l9 {P:Program}{f idx:FuncId}{E:TypeId}{e e':Ty}{fresh fr2:Bool}{cv:e.den→e'.den}(hcv:∀ x,HEq x (cv x))(hsh:e.sh=e'.sh)
  {den:aa [PK.rd (.list false E e'),PK.fn [e'] .bool]→Option (ai [RK.v (.int .i64)]×ah [PK.rd (.list false E e'),PK.fn [e'] .bool])}
  (hE:fb P f) (hd:e.shy=false) (hagg:e'.isAgg=true) (hidx:af P ⟨idx,[.rd (.list false E e'),.fn [e'] .bool],[.v (.int .i64)],fr2,den⟩)
  (hden:∀ (xs:List e'.den) (φ:Tup [e']→Option Bool),xs.length≤1048576→(∀ x∈xs,∃ b,φ (x,())=some b)→mw xs φ (den (xs,φ,())))
  (hwalk:oZ P f idx E e.cells) :
  af P ⟨f,[.own (.list true E e),.fn [e'] .bool],[.v (.list true E e)],fresh,fun x=>fP e x.1 (fun y=>x.2.1 (cv y.1,()))⟩:=by
 refine⟨hE,?_⟩
 intro w ro x vs bss y hargs hro hnd hy
 obtain⟨xs,φ,_⟩:=x
 obtain⟨v0,vs1,b0,bs1,rfl,rfl,⟨cs0,ho0,hm0⟩,v1,vs2,b1,bs2,rfl,rfl,⟨hb1,hfn⟩,rfl,rfl⟩:=hargs
 have ho0:cs0=[v0]:=ho0
 subst ho0 hb1
 have hm0':=hm0
 rw[bG (by simp)]at hm0
 obtain⟨u0,e0,H0⟩:=hm0
 simp only[List.cons.injEq,and_true]at e0
 subst e0
 obtain⟨flat,B0,r0,eb0,l0⟩:=oY H0
 have hfn:gj P w (fun k=>k<w.heap.size∧k∉([b0,[]]:List (List Nat)).flatten) [e'] .bool φ v1:=hfn
 have hy:fP e xs (fun y=>φ (cv y.1,()))=some y:=hy
 simp only[List.flatten_cons,List.flatten_nil,List.append_nil]at hnd hro hfn ⊢
 unfold fP at hy
 split at hy
 rotate_left
 ·cases hy
 rename_i hlen
 obtain⟨ys,hys,rfl⟩:=Option.map_eq_some_iff.1 hy
 obtain⟨hall,rfl⟩:=pD hys
 simp only at hall
 have hlt0:∀ k∈b0,k<w.heap.size:=H0.lt
 have hT:e.den=e'.den:=lm hsh
 have hsays:mw (xs.map cv) φ (den (xs.map cv,φ,())):=hden _ _ (by rw[List.length_map];exact hlen) (fun x hx=>by
  obtain⟨x',hx',rfl⟩:=List.mem_map.1 hx
  exact hall x' hx')
 have hrd:Rd w (fun k=>k<w.heap.size) (.list false E e') (xs.map cv) [v0] :=
  Rd.flags (a:=.list true E e) (by simp only[Ty.sh,hsh]) (w9 hT cv hcv xs) (Mx.rd (fun k hk=>(hro k hk).1) hlt0 hm0')
 have hcallI:∀ (i:Int) (u:ah [PK.rd (.list false E e'),PK.fn [e'] .bool]),den (xs.map cv,φ,())=some ((i,()),u)→Calls P idx #[v0,v1] w (fun e w'=>e=.returned (.int .i64 i)∧Below w.heap.size w w'):=by
  intro i u hi
  have:=hidx.2 w (fun k=>k<w.heap.size) (xs.map cv,φ,()) [v0,v1] [[],[]] _
   ⟨v0,[v1],[],[[]],rfl,rfl,⟨rfl,[v0],rfl,hrd⟩,v1,[],[],[],rfl,rfl,⟨rfl,gj.mono (fun k hk=>⟨hk.1,by simp⟩) hfn⟩,rfl,rfl⟩
   (fun k hk=>⟨hk,by simp⟩) (by simp) hi
  refine this.mono fun e w' hp=>?_
  obtain⟨v,us,N,oss,rbs,rfl,hret,hsz,hos,htp,hou,hfr,_,_,hres,_,_⟩:=hp
  refine⟨?_,⟨hos,htp,hou,hsz,fun k hk=>hfr k hk (by simp)⟩⟩
  obtain⟨u,us',b,bss',e1,e2,⟨cs,hvo,hm⟩,e3,e4⟩:=hres
  subst e3
  subst e1
  have hret:v=u:=hret
  subst hret
  have hvo:cs=[v]:=hvo
  have hm:cs=[.int .i64 i]:=hm.1
  rw[hvo]at hm
  simp only[List.cons.injEq,and_true]at hm
  rw[hm]
 have hpost:∀ (ys:List e.den) (v':Value) (w':World) (fl':List Value) (B':List Nat),Row w' E e.cells v' ys.length fl'→w.grownBy w' v0.ownBlock→v'.ownBlock=v0.ownBlock→Els w (fun _=>False) e ys fl' B'→B'.Sublist B0 →
   rg ⟨f,[.own (.list true E e),.fn [e'] .bool],[.v (.list true E e)],fresh,fun x=>fP e x.1 (fun y=>x.2.1 (cv y.1,()))⟩ w ro [v0,v1] [b0,[]] ((ys,()),()) (.returned v') w':=by
  intro ys v' w' fl' B' r' hgr hown L hsub
  have hnd0:b0.Nodup:=hnd
  have hB:∀ k∈B',w'.heap[k]?=w.heap[k]?:=fun k hk=>by
   have hk0:k∈B0:=hsub.subset hk
   refine hgr.block k (hlt0 k (by rw[eb0];exact List.mem_append_right _ hk0)) fun h=>?_
   rw[eb0]at hnd0
   exact (List.nodup_append.1 hnd0).2.2 k (by rw[← h];simp) k hk0 rfl
  have L':Els w' (fun k=>False∨(fresh=false∧ro k)) e ys fl' B':=L.carry (fun _ h=>h.elim) (fun _ h=>h.elim) hB
  have R:=td r' L'
  rw[hown]at R
  have hsub':(v0.ownBlock.toList++B').Sublist b0:=by rw[eb0];exact (List.Sublist.refl _).append hsub
  refine⟨v',[v'],fun _=>False,[[],[]],[v0.ownBlock.toList++B'],rfl,rfl,hgr.size,hgr.os,hgr.tape,hgr.output,?_,?_,?_,?_,?_,?_⟩
  ·intro k hk hn
   refine hgr.block k hk (fun h=>hn ?_)
   simp only[List.flatten_cons,List.flatten_nil,List.append_nil]
   rw[eb0]
   exact List.mem_append_left _ (by rw[← h];simp)
  ·intro k h;exact h.elim
  ·exact⟨rfl,rfl,trivial⟩
  ·refine⟨v',[],_,[],rfl,rfl,⟨[v'],rfl,?_⟩,rfl,rfl⟩
   rw[bG (by simp)]
   exact⟨v',rfl,R⟩
  ·simp only[List.flatten_cons,List.flatten_nil,List.append_nil,List.nil_append]
   exact hnd.sublist hsub'
  ·intro k hk
   simp only[List.flatten_cons,List.flatten_nil,List.append_nil,List.nil_append]at hk
   refine⟨⟨Nat.lt_of_lt_of_le (hlt0 k (hsub'.subset hk)) hgr.size,.inr ?_⟩,fun h=>h⟩
   simp only[List.flatten_cons,List.flatten_nil,List.append_nil]
   exact hsub'.subset hk
 have l0':Els w (fun _=>False) e xs flat B0:=l0.deep hd
 rcases hsays with ⟨hno,u,hi⟩|⟨p,x,u,hx,hxt,hfirst,hi⟩
 ·have hys:xs.filter (fun x=>!decide (φ (cv x,())=some true))=xs:=by
   rw[List.filter_eq_self]
   intro a ha
   rw[hno (cv a) (List.mem_map_of_mem ha)]
   simp
  refine (hwalk.none_ w v0 v1 xs.length flat r0 (hcallI _ _ hi)).mono fun en w'=>?_
  rintro⟨rfl,hb⟩
  rw[hys]
  exact hpost xs v0 w' flat B0 (r0.same (fun k hk=>hb.block k (r0.lt k hk))) ⟨hb.os,hb.tape,hb.output,hb.size,fun k hk _=>hb.block k hk⟩ rfl l0' (List.Sublist.refl _)
 ·obtain⟨fi,caps,rfl,hef,hcall⟩:=hfn
  have hpx:p<xs.length:=by
   have:=(List.getElem?_eq_some_iff.1 hx).1
   rwa [List.length_map]at this
  have r0':=r0
  rcases r0.2 with ⟨_,h⟩|⟨g,cap,cur,rfl,hg,hnc,hcm,hcs,htake⟩
  ·exact absurd hpx (by rw[h];omega)
  obtain⟨bss,hB,hxs⟩:=l0'.to
  have hnd0:b0.Nodup:=hnd
  rw[eb0]at hnd0
  have hgB:∀ k∈B0,k≠g:=fun k hk h=>(List.nodup_append.1 hnd0).2.2 g (by simp[Value.ownBlock]) k hk h.symm
  have hdelx:∀ (j:Nat) (x:e.den),xs[j]?=some x→(fun j=>match xs[j]? with|some x=>decide (φ (cv x,())=some true)|none=>false) j=decide (φ (cv x,())=some true):=fun j x hj=>by simp only[hj]
  obtain⟨B',L,hsub,hln⟩:=wj l0' (fun x=>decide (φ (cv x,())=some true)) _ hdelx
  have hcv':∀ j,(xs.map cv)[j]?=(xs[j]?).map cv:=fun j=>List.getElem?_map
  refine (hwalk.some_ w g xs.length cap flat fi caps (fun j=>match xs[j]? with|some x=>decide (φ (cv x,())=some true)|none=>false) p r0' l0.one hef hpx ?_ ?_ ?_ (hcallI _ _ hi)).mono fun en w'=>?_
  ·rw[hcv',List.getElem?_eq_getElem hpx,Option.map_some,Option.some.injEq]at hx
   simp only[List.getElem?_eq_getElem hpx,hx,hxt,decide_true]
  ·intro j hj
   have hj':j<xs.length:=by omega
   have:=hfirst j (cv xs[j]) hj (by rw[hcv',List.getElem?_eq_getElem hj'];rfl)
   simp only[List.getElem?_eq_getElem hj',this]
   simp
  ·intro w1 hs1 hk1 j hj
   have hxj:=List.getElem?_eq_getElem hj
   obtain⟨c,h3,h4⟩:=hxs j xs[j] hxj
   have hc:(flat.drop (j*e.cells)).take e.cells=c:=by
    refine List.ext_getElem? fun i=>?_
    rw[List.getElem?_take]
    split
    ·rename_i hi
     have hi':i<c.length:=by rw[h3.len];exact hi
     rw[List.getElem?_drop,h4 i c[i] (List.getElem?_eq_getElem hi'),List.getElem?_eq_getElem hi']
    ·rename_i hi
     exact (List.getElem?_eq_none (by rw[h3.len];omega)).symm
   rw[hc]
   have hbj:∀ k∈bss j,k∈B0:=fun k hk=>by rw[hB];exact dy.2 ⟨j,hj,hk⟩
   have hbl:∀ k∈bss j,k<w.heap.size:=fun k hk=>hlt0 k (by rw[eb0];exact List.mem_append_right _ (hbj k hk))
   have M1:Mx w1 (fun _=>False) e none 0 xs[j] c (bss j):=h3.carry (fun _ h=>h) (fun _ h=>h.elim) (fun k hk=>hk1 k (hbl k hk) (hgB k (hbj k hk)))
   have R1:Rd w1 (fun k=>k<w1.heap.size) e' (cv xs[j]) c:=Rd.flags hsh (hcv _) (Mx.rd (fun _ h=>h.elim) (fun k hk=>Nat.lt_of_lt_of_le (hbl k hk) hs1) M1)
   obtain⟨b,hb⟩:=hall xs[j] (List.getElem_mem hj)
   have:=hcall w1 hs1 (fun k hk=>hk1 k hk.1 (fun h=>hk.2 (by rw[h,eb0];exact List.mem_append_left _ (by simp[Value.ownBlock])))) (cv xs[j],()) [.agg c.toArray] b ⟨.agg c.toArray,c,[],rfl,by unfold cL;rw[hagg];rfl,R1,rfl⟩ hb
   refine Calls.mono (h:=this) fun e2 w2 hp=>?_
   obtain⟨u,cu,rfl,hvo,hru,hbw⟩:=hp
   have hvo:cu=[u]:=hvo
   have hru:cu=[.bool b]:=hru
   rw[hvo]at hru
   simp only[List.cons.injEq,and_true]at hru
   refine⟨?_,hbw⟩
   rw[hru]
   simp only[hxj,hb]
   cases b <;> simp
  ·rintro⟨v',rfl,r',hgr,hown⟩
   rw[← hln]at r'
   exact hpost _ v' w' _ B' r' hgr hown L hsub
theorem lh:∀ a:Ty,a.hd.cells=a.cells
 |.pair a b=>by show a.hd.cells+b.hd.cells=a.cells+b.cells;rw[lh a,lh b]
 |.list _ _ _=>rfl
 |.int _=>rfl
 |.bool=>rfl
 |.str=>rfl
 |.unit=>rfl
 |.hdr=>rfl
theorem Mx.hd {w w':World}{G G':Nat→Prop}:∀ {a:Ty} {pos:Nat} {x:a.den} {cs:List Value} {bs:List Nat},a.sh=a→Mx w G a none pos x cs bs→Mx w' G' a.hd none pos (hdD a x) cs bs
 |.int _,_,_,_,_,_,h=>h
 |.bool,_,_,_,_,_,h=>h
 |.str,_,_,_,_,_,h=>h
 |.unit,_,_,_,_,_,h=>h
 |.hdr,_,_,_,_,_,h=>h
 |.pair a b,pos,x,_,_,hs,⟨c1,c2,b1,b2,e1,e2,h1,h2⟩=>by
  simp only[Ty.sh,Ty.pair.injEq]at hs
  exact⟨c1,c2,b1,b2,e1,e2,Mx.hd hs.1 h1,Mx.hd hs.2 (Mx.pos h2)⟩
 |.list m E e,_,xs,cs,bs,hs,h=>by
  simp only[Ty.sh,Ty.list.injEq]at hs
  obtain⟨rfl,_⟩:=hs
  rw[cd]at h
  obtain⟨A,cap,h1,_⟩:=h.2
  exact⟨⟨A,cap,h1⟩,h.1⟩
theorem rM {P:Program}{f:FuncId}{E:TypeId}{e:Ty}{bytes:Nat}{fr:Bool}(he:e.sh=e)
  (hs:af P ⟨f,[.rd (.list false E e)],[.v (.list true E e)],fr,fun x=>el e bytes x.1⟩):af P ⟨f,[.rd (.list false E e)],[.v (.list true E e.hd)],true,fun x=>oz e bytes x.1⟩:=by
 refine⟨hs.1,fun w ro x vs bss y hargs hro hnd hy=>?_⟩
 obtain⟨z,hz,rfl⟩:=Option.map_eq_some_iff.1 hy
 obtain⟨⟨xs,⟨⟩⟩,⟨⟩⟩:=z
 refine (hs.2 w ro x vs bss _ hargs hro hnd hz).mono fun en w' hp=>?_
 obtain⟨v,us,N,oss,rbs,h1,hret,hsz,hos,htp,hou,hfr,hN,hO,hres,hnd2,hfresh⟩:=hp
 obtain⟨u,us',b,bss',e1,e2,⟨cs,hvo,hm⟩,e3,e4⟩:=hres
 refine⟨v,us,N,oss,rbs,h1,hret,hsz,hos,htp,hou,hfr,hN,?_,⟨u,us',b,bss',e1,e2,⟨cs,hvo,?_⟩,e3,e4⟩,hnd2,hfresh⟩
 ·obtain⟨v1,vs1,b1,bs1,rfl,rfl,_,rfl,rfl⟩:=hargs
  match oss,hO with
  |[b2],hO=>exact hO
  |[],hO=>exact hO.elim
  |_::_::_,hO=>exact (hO.2:False).elim
 ·rw[bG (by simp)]at hm ⊢
  obtain⟨v2,h2,flat,bs2,h3,h4,h5⟩:=hm
  refine⟨v2,h2,flat,bs2,?_,?_,fun j y hj=>?_⟩
  ·rw[lh,List.length_map];exact h3
  ·rw[List.length_map];exact h4
  ·rw[List.getElem?_map]at hj
   obtain⟨x',hx',rfl⟩:=Option.map_eq_some_iff.1 hj
   obtain⟨c,h6,h7⟩:=h5 j x' hx'
   exact⟨c,h6.hd he,fun i u hi=>by rw[lh];exact h7 i u hi⟩
end Go.Proofs.YthgnfidnmnkeaaaGreatEv
