/- FnExactNodeTick: the plain law. -/
import Derived.Test.YthgnfidnmnkeaaaGreatP2
namespace Go.Proofs.YthgnfidnmnkeaaaGreatEv
open Go
structure fW (n m:Node):Prop where
 ok:cK m
 me:m.1=n.1
 now_:m.2.2.2.2.2.1=n.2.2.2.2.2.1
 seq:m.2.2.2.2.2.2.1=n.2.2.2.2.2.2.1
 turn:m.2.2.2.2.2.2.2.1=n.2.2.2.2.2.2.2.1
 rest:m.2.2.2.2.2.2.2.2.2.2.2.2=n.2.2.2.2.2.2.2.2.2.2.2.2
 by_:∀ d∈Node.doubts m,d.2.2.2.length≤1048576
theorem fW.say {n m:Node}(h:fW n m){f:ao}(b:Int)(hf:cP f):fW n (cJ m f b):=by
 obtain⟨f1,_,_,_,_,f6,f7,f8,_,f10⟩:=gK m f b
 exact⟨qK h.ok hf,f1.trans h.me,f6.trans h.now_,f7.trans h.seq,f8.trans h.turn,f10.trans h.rest,vN h.by_⟩
theorem fW.setP {n m:Node}(h:fW n m)(p:ao):fW n (setP m p):=⟨h.ok.setP p,h.me,h.now_,h.seq,h.turn,h.rest,h.by_⟩
theorem fW.nb {n m:Node}(h:fW n m)(hn:NB n):NB m:=by
 have hp:Node.places m=Node.places n:=congrArg (fun r=>r.2.1) h.rest
 have ho:Node.others m=Node.others n:=congrArg (fun r=>r.2.2) h.rest
 exact⟨h.ok.lt,h.ok.lc,h.ok.ld,h.by_,by rw[hp];exact hn.places,by rw[hp];exact hn.trips,by rw[ho];exact hn.others,by rw[ho];exact hn.facts⟩
theorem fW.far {n m:Node}(h:fW n m)(hf:gM n):gM m:=by
 have ho:Node.others m=Node.others n:=congrArg (fun r=>r.2.2) h.rest
 exact⟨by rw[ho];exact hf.short,by rw[ho];exact hf.table⟩
theorem uO {n:Node}(h:fW n n)(hk:∀ d∈Node.doubts n,∃ f∈Node.table n,f.1=d.1):fW n (lx n)∧ae (lx n)=ae n:=by
 have:=qM (st:=eX) (Inv:=fun m=>iz (Node.doubts n) n.2.2.2.2.2.1 m∧fW n m∧ae m=ae n) (ds:=Node.doubts n) (n:=n) ⟨⟨h.ok,hk,rfl⟩,h,rfl⟩ (fun m d hd hm=>by
  refine⟨jV hm.1 hd,?_⟩
  unfold eX
  cases kH m.2.2.2.2.2.1 d.2.2.1 d.2.2.2.length with
  |false=>exact hm.2
  |true =>
   have hf:=oJ (eS hm.1.ok.table (hm.1.key d hd)).1
   exact⟨hm.2.1.say _ hf,(gK m _ _).2.2.2.2.2.2.2.2.1.trans hm.2.2⟩)
 exact this.2
theorem sf {n m:Node}(h:fW n m):fW n (cC m).1∧((ae (cC m).1).1=-1∨(ae (cC m).1).1=(ae m).1)∧(cC m).2.length≤2∧∀ w∈(cC m).2,(bF.table w).length≤1048576:=by
 unfold cC
 cases hp:(ae m).1==-1 with
 |true=>exact⟨h,.inr rfl,by simp,by simp⟩
 |false =>
  simp only[cond_false]
  cases hl:dV (a8 (Node.table m) (ae m).1) with
  |false=>exact⟨h.setP _,.inl rfl,by simp,by simp⟩
  |true =>
   have hf:=eS h.ok.table (ip hl)
   simp only[Bool.not_true,cond_false]
   cases decide (m.2.2.2.2.2.1-(ae m).2.1≥4) with
   |true =>
    simp only[cond_true]
    cases (a8 (Node.table m) (ae m).1).2.2.1==1 with
    |true=>exact⟨(h.setP noP).say _ (sK hf.1),.inl (congrArg (·.1) (gK (setP m noP) _ _).2.2.2.2.2.2.2.2.1),by simp,by simp⟩
    |false=>exact⟨h.setP _,.inl rfl,by simp,by simp⟩
   |false =>
    simp only[cond_false]
    cases decide (m.2.2.2.2.2.1-(ae m).2.1≥2) with
    |false=>exact⟨h,.inr rfl,by simp,by simp⟩
    |true =>
     simp only[cond_true]
     cases (ae m).2.2.2 with
     |true=>exact⟨h,.inr rfl,by simp,by simp⟩
     |false =>
      refine⟨h.setP _,.inr rfl,?_,fun w hw=>?_⟩
      ·show ((ca m).map (askW m)).length≤2
       rw[List.length_map]
       exact List.length_take_le _ _
      ·obtain⟨to,_,rfl⟩:=List.mem_map.1 hw
       exact Nat.zero_le _
theorem vX {n:Node}(hf:gM n)(ht:(Node.table n).length≤1048576)(draw:Int):(gC n draw).length≤2∧∀ w∈gC n draw,(bF.table w).length≤1048576:=by
 unfold gC
 cases aV .i64 draw 3==1 with
 |true =>
  simp only[cond_true,gY]
  cases gX n with
  |false=>exact⟨by simp,by simp⟩
  |true =>
   refine⟨?_,fun w hw=>?_⟩
   ·show ((([0,1]:List Int).filter (fun s=>s != aW n.1)).map _).length≤2
    rw[List.length_map]
    exact List.length_filter_le _ _
   ·obtain⟨s,_,rfl⟩:=List.mem_map.1 hw
    exact ht
 |false =>
  simp only[cond_false]
  cases (aV .i64 draw 3==3||decide (b6 n=[])) with
  |true=>exact⟨by simp,by simp⟩
  |false =>
   simp only[cond_false]
   cases aV .i64 draw 3==0 with
   |true =>
    refine⟨by simp,fun w hw=>?_⟩
    rw[cond_true,List.mem_singleton]at hw
    subst hw
    exact ht
   |false =>
    simp only[cond_false,n4]
    match ho:Node.others n with
    |[]=>exact⟨by simp,by simp⟩
    |x::_ =>
     refine⟨by simp,fun w hw=>?_⟩
     rw[List.mem_singleton]at hw
     subst hw
     exact (hf.table x (by rw[ho];simp)).2
def dD (n:Node):Node:=(n.1,n.2.1,n.2.2.1,n.2.2.2.1,n.2.2.2.2.1,n.2.2.2.2.2.1+1,n.2.2.2.2.2.2)
theorem uP (K:Nat)(n:Node)(draw:Int)(hn:NB n)(hP:mj n)(hu:n.2.1=true)(hg:n.2.2.1=false)(hmax:¬ n.2.2.2.2.2.1≥999999)(hK:1048577<K) :
  ∃ (y:Node) (ws:List bF),NB y∧ws.length≤1048576∧(∀ w∈ws,(bF.table w).length≤1048576)∧Q105.f K (n,draw,())=some ((y,ws,()),())∧Q190.f K (n,draw,())=some ((ws,()),(y,())):=by
 have hU:=hP.up hu
 have hs:=hU.say
 obtain⟨hT,_,_,_,hPr,hD,_,_,hO⟩:=hU
 obtain⟨⟨me0,me1⟩,⟨now0,now1⟩,⟨seq0,seq1⟩,⟨turn0,turn1⟩,_⟩:=hP
 have hsh:=qQ ⟨me0,me1⟩ hO
 have hfar:gM n:=⟨by rcases hsh with e|⟨x,e⟩ <;> rw[e] <;> simp,fun x hx=>⟨(hO.1 x hx).2.2.2.1,hn.facts x hx⟩⟩
 have hk1:fW (dD n) (dD n):=⟨⟨hs.table,hs.cast,hs.asc,hs.inp,hs.lt,hs.lc,hs.ld⟩,rfl,rfl,rfl,rfl,rfl,hn.by_⟩
 have hn1:NB (dD n):=⟨hn.table,hn.cast,hn.doubts,hn.by_,hn.places,hn.trips,hn.others,hn.facts⟩
 have hf1:gM (dD n):=⟨hfar.short,hfar.table⟩
 have hkey:∀ d∈Node.doubts (dD n),∃ f∈Node.table (dD n),f.1=d.1:=fun d hd=>by
  obtain⟨f,hf,e,_⟩:=(hD.1 d hd).1
  exact⟨f,hf,e⟩
 have hdd:∀ d∈Node.doubts (dD n),0≤d.2.2.1∧d.2.2.1≤(dD n).2.2.2.2.2.1∧d.2.2.2.length≤1048576:=fun d hd=>by
  obtain⟨s0,s1⟩:=(hD.1 d hd).2.1
  refine⟨s0,?_,hn.by_ d hd⟩
  show d.2.2.1≤n.2.2.2.2.2.1+1
  omega
 have hbo:iz (Node.doubts (dD n)) (dD n).2.2.2.2.2.1 (dD n):=⟨hk1.ok,hkey,rfl⟩
 have hnow:(dD n).2.2.2.2.2.1≤1000000:=by show n.2.2.2.2.2.1+1≤1000000;omega
 have eD:=xj K (dD n) hbo hdd hnow hK
 have eB:=xk K (dD n) hbo hdd hnow hK
 obtain⟨hk2,hp2⟩:=uO hk1 hkey
 generalize lx (dD n)=m at eD eB hk2 hp2
 have hp2:ae m=ae n:=hp2
 have hprobe:((ae m).1=-1∨0≤(ae m).1)∧0≤(ae m).2.1∧(ae m).2.1≤1000000:=by
  rw[hp2]
  unfold kf at hPr
  split at hPr
  ·rename_i h1
   rw[hPr]
   exact⟨.inl rfl,by show (0:Int)≤0;omega,by show (0:Int)≤1000000;omega⟩
  ·obtain⟨_,⟨f,hf,e⟩,⟨s0,s1⟩,_⟩:=hPr
   have:=(hT.1 f hf).1.1
   exact⟨.inr (e ▸ this),s0,by omega⟩
 have hmnow:m.2.2.2.2.2.1=n.2.2.2.2.2.1+1:=hk2.now_
 have eF:=vO K m hk2.ok hprobe.2.1 hprobe.2.2 (by omega) (by omega) hK
 have eW:=fun hne=>xm K m hk2.ok hne hprobe.2.1 hprobe.2.2 (by omega) (by omega) hK
 obtain⟨hk3,hp3,hl3,ht3⟩:=sf hk2
 have hstay:(ae m).1=-1→cC m=(m,[]):=fun h=>by unfold cC;rw[show ((ae m).1==-1)=true by simpa using h];rfl
 generalize hfo:cC m=fo at eF eW hk3 hp3 hl3 ht3 hstay
 obtain⟨m2,ws2⟩:=fo
 simp only at eF eW hk3 hp3 hl3 ht3
 have hask:∃ (y:Node) (ws:List bF),Q180.f K (m2,())=some ((ws,()),(y,()))∧((ae m2).1=-1→Q98.f K (m2,())=some ((y,ws,()),()))∧((ae m2).1≠-1→y=m2∧ws=[])∧NB y∧gM y∧aT (Node.table y)∧ws.length≤1∧∀ w∈ws,(bF.table w).length≤1048576:=by
  have hnb:=hk3.nb hn1
  have hfo:=hk3.far hf1
  by_cases hpm:(ae m2).1=-1
  ·obtain⟨y,ws,e1,e2,h3⟩:=vS K m2 hk3.ok hpm (by rw[hk3.seq];exact seq0) (by rw[hk3.seq];show n.2.2.2.2.2.2.1≤1000000;omega) (by rw[hk3.turn];exact turn0) (by rw[hk3.turn];exact turn1) hK
   refine⟨y,ws,e2,fun _=>e1,fun h=>absurd hpm h,?_⟩
   rcases h3 with ⟨rfl,rfl⟩|⟨to,rfl,rfl⟩
   ·exact⟨hnb,hfo,hk3.ok.table,by simp,by simp⟩
   ·have hw:=xp hk3.ok
    refine⟨⟨hw.lt,hw.lc,hw.ld,hnb.by_,hnb.places,hnb.trips,hnb.others,hnb.facts⟩,⟨hfo.short,hfo.table⟩,hw.table,by simp,fun w hw'=>?_⟩
    rw[List.mem_singleton]at hw'
    subst hw'
    exact tlen (sL hk3.ok to)
  ·refine⟨m2,[],?_,fun h=>absurd h hpm,fun _=>⟨rfl,rfl⟩,hnb,hfo,hk3.ok.table,by simp,by simp⟩
   simp only[Q180.f,Q180.pre]
   rw[show (m2.2.2.2.2.2.2.2.2.2.2.1.1 != -1)=true by show ((ae m2).1 != -1)=true;simpa using hpm]
   rfl
 obtain⟨y,ws3,eA,eBg,hsame,hny,hfy,hTy,hl4,ht4⟩:=hask
 have eDr:=wQ K y draw hny hfy hTy hK
 have eM:=xr K y draw hfy hTy hny.table hK
 obtain⟨hl5,ht5⟩:=vX hfy hny.table draw
 generalize gC y draw=ws4 at eDr eM hl5 ht5
 have hlat:(n.1,n.2.1,n.2.2.1,n.2.2.2.1,n.2.2.2.2.1,wr .i64 (n.2.2.2.2.2.1+1),n.2.2.2.2.2.2)=dD n:=by
  rw[cM (by omega) (by omega)]
  rfl
 refine⟨y,(ws2++ws3)++ws4,hny,by simp only[List.length_append];omega,fun w hw=>?_,?_,?_⟩
 ·simp only[List.mem_append]at hw
  rcases hw with (hw|hw)|hw
  ·exact ht3 w hw
  ·exact ht4 w hw
  ·exact ht5 w hw
 ·simp only[Q105.f]
  rw[hlat,hu,hg,decide_eq_false hmax]
  simp only[Bool.not_true,cond_false]
  rw[eD]
  simp only[Option.bind_some]
  by_cases hpm:(ae m).1=-1
  ·obtain⟨rfl,rfl⟩:=Prod.mk.inj (hstay hpm)
   rw[show decide (m2.2.2.2.2.2.2.2.2.2.2.1.1≥0)=false from decide_eq_false (by show ¬ (ae m2).1≥0;omega),show decide (m2.2.2.2.2.2.2.2.2.2.2.1.1<0)=true from decide_eq_true (by show (ae m2).1<0;omega)]
   simp only[cond_true,cond_false]
   rw[eBg hpm]
   simp only[Option.bind_some]
   rw[szw _ _ _ (by omega) (by simp only[List.length_nil];omega)]
   simp only[cond_true]
   rw[eM]
   simp only[Option.bind_some]
   rw[szw _ _ _ (by omega) (by simp only[List.length_append,List.length_nil];omega)]
   rfl
  ·rw[show decide (m.2.2.2.2.2.2.2.2.2.2.1.1≥0)=true from decide_eq_true (by show (ae m).1≥0;omega)]
   simp only[cond_true]
   rw[eW hpm]
   simp only[Option.bind_some]
   by_cases hp2':(ae m2).1=-1
   ·rw[show decide (m2.2.2.2.2.2.2.2.2.2.2.1.1<0)=true from decide_eq_true (by show (ae m2).1<0;omega)]
    simp only[cond_true]
    rw[eBg hp2']
    simp only[Option.bind_some]
    rw[szw _ _ _ (by omega) (by omega)]
    simp only[cond_true]
    rw[eM]
    simp only[Option.bind_some]
    rw[szw _ _ _ (by omega) (by simp only[List.length_append];omega)]
    rfl
   ·rw[show decide (m2.2.2.2.2.2.2.2.2.2.2.1.1<0)=false from decide_eq_false (by show ¬ (ae m2).1<0;rcases hp3 with h|h <;> omega)]
    obtain⟨rfl,rfl⟩:=hsame hp2'
    simp only[cond_false]
    rw[eM]
    simp only[Option.bind_some]
    rw[szw _ _ _ (by omega) (by omega),List.append_nil]
    rfl
 ·simp only[Q190.f,Q145.f]
  rw[hlat,hu,hg,decide_eq_false hmax]
  simp only[cond_true,Option.bind_some,Bool.not_false,Bool.not_true,cond_false]
  rw[eB]
  simp only[Option.bind_some]
  rw[eF]
  simp only[Option.bind_some]
  rw[eA]
  simp only[Option.bind_some]
  rw[szw _ _ _ (by omega) (by omega)]
  simp only[cond_true]
  rw[eDr]
  simp only[Option.bind_some]
  rw[szw _ _ _ (by omega) (by simp only[List.length_append];omega)]
  rfl
theorem uQ (K:Nat)(n y:Node)(ws:List bF)(draw:Int)(hn:NB n)(hok:Q144.f K (n,())=rb true)(hj:Q190.f K (n,draw,())=some ((ws,()),(y,())))(hK:1048577<K):Q195.f K (n,draw,())=some ((y,ws,()),()):=by
 simp only[Q195.f,Q194.f]
 rw[hok]
 simp only[Option.bind_some,Bool.not_true,cond_false]
 rw[vM K n hn hK]
 simp only[Option.bind_some,Q191.f]
 rw[hj]
 simp only[Option.bind_some,Q193.f]
 simp
theorem pP (K:Nat)(n:Node)(draw:Int)(hn:NB n)(hK:1048577<K):∃ y:Node,∃ ws:List bF,NB y∧ws.length≤1048576∧(∀ w∈ws,(bF.table w).length≤1048576)∧Q106.f K (n,draw,())=some ((y,ws,()),())∧Q195.f K (n,draw,())=some ((y,ws,()),()):=by
 obtain⟨b,h1,h2,h3⟩:=rY K n hn hK
 cases b with
 |false =>
  refine⟨qL,[],sa,by simp,by simp,?_,?_⟩
  ·simp only[Q106.f];rw[h1];rfl
  ·simp only[Q195.f,Q194.f];rw[h2];rfl
 |true =>
  have hP:=h3.1 rfl
  have hcopy:=uz K n hn hK
  have hb:∃ (y:Node) (ws:List bF),NB y∧ws.length≤1048576∧(∀ w∈ws,(bF.table w).length≤1048576)∧Q105.f K (n,draw,())=some ((y,ws,()),())∧Q190.f K (n,draw,())=some ((ws,()),(y,())):=by
   by_cases hs:n.2.1=true∧n.2.2.1=false∧¬ n.2.2.2.2.2.1≥999999
   ·exact uP K n draw hn hP hs.1 hs.2.1 hs.2.2 hK
   ·refine⟨n,[],hn,by simp,by simp,?_,?_⟩
    ·simp only[Q105.f]
     cases hu:n.2.1 with
     |false=>rfl
     |true =>
      cases hg:n.2.2.1 with
      |true=>rfl
      |false =>
       have:n.2.2.2.2.2.1≥999999:=by by_cases h:n.2.2.2.2.2.1≥999999;exact h;exact absurd ⟨hu,hg,h⟩ hs
       rw[decide_eq_true this]
       rfl
    ·simp only[Q190.f,Q145.f]
     cases hu:n.2.1 with
     |false=>rfl
     |true =>
      cases hg:n.2.2.1 with
      |true=>rfl
      |false =>
       have:n.2.2.2.2.2.1≥999999:=by by_cases h:n.2.2.2.2.2.1≥999999;exact h;exact absurd ⟨hu,hg,h⟩ hs
       rw[decide_eq_true this]
       rfl
  obtain⟨y,ws,hy,hws,htb,hs,hi⟩:=hb
  refine⟨y,ws,hy,hws,htb,?_,uQ K n y ws draw hn h2 hi hK⟩
  simp only[Q106.f]
  rw[h1]
  simp only[Option.bind_some,Bool.not_true,cond_false]
  rw[hcopy]
  simp only[Option.bind_some]
  rw[hs]
  simp only[Option.bind_some]
  rw[uz K y hy hK]
  rfl
theorem qS (K:Nat)(n:Node)(v:Int)(hn:NM n)(hK:1048577<K):Q196.f K (n,v,())=some ((true,()),()):=by
 simp only[Q196.f]
 obtain⟨r,h1,h2⟩:=ut K n hn 1048576 (by omega) (by omega) hK
 rw[h1,Option.bind_some]
 rcases h2 with h2|⟨h2,_,hb⟩
 ·rw[decide_eq_true h2];rfl
 ·rw[gV h2]
  obtain⟨y,ws,hy,hws,htb,h3,h4⟩:=pP K n v hb hK
  obtain⟨m,hm,h5⟩:=uy K n hb hK
  obtain⟨m1,m2,ws',k1,k2,k3,k4,k5,k6,k7,k8⟩:=uA K y ws hy hws htb hK
  simp only[cond_false,ur K n hb hK,Option.bind_some,h3,h4,h5,k3,k4,k5,k6,k7,k8,mA K n hb hK,gV hm,gV k1,gV k2,bne_self_eq_false,Bool.not_true]
end Go.Proofs.YthgnfidnmnkeaaaGreatEv
