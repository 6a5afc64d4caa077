/- The marks that a law writes into what was answered, and the look whether they still stand. -/
import Derived.Test.YthgnfidnmnkeaaaGreatP1
import Derived.Test.YthgnfidnmnkeaaaGreatE0
namespace Go.Proofs.YthgnfidnmnkeaaaGreatEv
open Go
theorem i9 {α:Type}{xs:List α}{i:Nat}{v:α}(h:i<xs.length):idx (xs.set i v) (i:Int)=some v:=by
 rw[md,List.getElem?_set]
 simp[h]
theorem wrp {a:Int}(h0:0≤a)(h1:a≤9223372036854775806):wr .i64 (a+1)=a+1:=cM (by omega) (by omega)
def mks {α:Type}(mk:α→Int→α×Int):List α→Int→List α×Int
 |[],m=>([],m)
 |x::xs,m=>((mk x m).1::(mks mk xs (mk x m).2).1,(mks mk xs (mk x m).2).2)
theorem au {α:Type}{mk:α→Int→α×Int}{W:α→Nat}(hW:∀ x m,(mk x m).2=m+W x):∀ (xs:List α) (m:Int),(mks mk xs m).2=m+((xs.map W).sum:Nat)
 |[],m=>by simp[mks]
 |x::xs,m=>by
  simp only[mks,List.map_cons,List.sum_cons]
  rw[au hW xs,hW]
  omega
theorem bk {α:Type}{mk:α→Int→α×Int}:∀ (xs:List α) (m:Int),(mks mk xs m).1.length=xs.length
 |[],_=>rfl
 |x::xs,m=>by simp[mks,bk xs]
abbrev MkR (α:Type):=(Int×Unit)×(List α×Unit)
theorem fw {α:Type}(mk:α→Int→α×Int)(W:α→Nat)(P:α→Prop)(hW:∀ x m,(mk x m).2=m+W x){step:(List α×Int×Int→Option (MkR α))→List α×Int×Int→Option (MkR α)}
  (h:∀ (rec:List α×Int×Int→Option (MkR α)) (ys:List α) (m:Int) (i:Nat) (hi:i<ys.length),ys.length≤1048576→P ys[i]→0≤m→m+W ys[i]≤4611686018427387904→step rec (ys,m,(i:Int))=rec (ys.set i (mk ys[i] m).1,(mk ys[i] m).2,((i+1:Nat):Int)))
  (hend:∀ (rec:List α×Int×Int→Option (MkR α)) (ys:List α) (m:Int),step rec (ys,m,(ys.length:Int))=some ((m,()),(ys,()))) :
  ∀ (xs pre:List α) (m:Int) (k:Nat),pre.length+xs.length≤1048576→xs.length<k→(∀ x∈xs,P x)→0≤m→m+((xs.map W).sum:Nat)≤4611686018427387904 →
   ac step k (pre++xs,m,((pre.length:Nat):Int))=some (((mks mk xs m).2,()),(pre++(mks mk xs m).1,())):=by
 intro xs
 induction xs with
 |nil =>
  intro pre m k hl hk _ _ _
  obtain⟨k,rfl⟩:∃ k',k=k'+1:=⟨k-1,by omega⟩
  show step (ac step k) _=_
  rw[List.append_nil,hend]
  simp[mks]
 |cons x xs ih =>
  intro pre m k hl hk hP h0 hm
  simp only[List.length_cons]at hl hk
  obtain⟨k,rfl⟩:∃ k',k=k'+1:=⟨k-1,by omega⟩
  have hi:pre.length<(pre++x::xs).length:=by simp
  have e:(pre++x::xs)[pre.length]=x:=by simp
  simp only[List.map_cons,List.sum_cons]at hm
  have h1:=h (ac step k) (pre++x::xs) m pre.length hi (by simp;omega) (e.symm ▸ hP x (List.mem_cons_self ..)) h0 (by rw[e];omega)
  rw[e]at h1
  show step (ac step k) _=_
  rw[h1]
  have e2:(pre++x::xs).set pre.length (mk x m).1=(pre++[(mk x m).1])++xs:=by simp
  rw[e2]
  have h2:=ih (pre++[(mk x m).1]) (mk x m).2 k (by simp;omega) (by omega) (fun y hy=>hP y (List.mem_cons_of_mem _ hy)) (by rw[hW];omega) (by rw[hW];omega)
  simp only[List.length_append,List.length_cons,List.length_nil,Nat.zero_add]at h2
  rw[h2]
  simp[mks]
theorem fy {α:Type}(mk:α→Int→α×Int)(W:α→Nat)(P:α→Prop)(hW:∀ x m,(mk x m).2=m+W x)(ys:List α){step:(Int×Int→Option ((Int×Unit)×Unit))→Int×Int→Option ((Int×Unit)×Unit)}(hys:ys.length≤1048576)
  (h:∀ (rec:Int×Int→Option ((Int×Unit)×Unit)) (x:α) (m:Int) (i:Nat) (hi:i<ys.length),ys[i]=(mk x m).1→P x→0≤m→m+W x≤4611686018427387904→step rec (m,(i:Int))=rec ((mk x m).2,((i+1:Nat):Int)))
  (hend:∀ (rec:Int×Int→Option ((Int×Unit)×Unit)) (m:Int),step rec (m,(ys.length:Int))=some ((m,()),())) :
  ∀ (xs pre:List α) (m:Int) (k:Nat),ys=pre++(mks mk xs m).1→xs.length<k→(∀ x∈xs,P x)→0≤m→m+((xs.map W).sum:Nat)≤4611686018427387904 →
   ac step k (m,((pre.length:Nat):Int))=some (((mks mk xs m).2,()),()):=by
 intro xs
 induction xs with
 |nil =>
  intro pre m k e hk _ _ _
  obtain⟨k,rfl⟩:∃ k',k=k'+1:=⟨k-1,by omega⟩
  have e':pre.length=ys.length:=by rw[e];simp[mks]
  show step (ac step k) _=_
  rw[e',hend]
  rfl
 |cons x xs ih =>
  intro pre m k e hk hP h0 hm
  simp only[List.length_cons]at hk
  obtain⟨k,rfl⟩:∃ k',k=k'+1:=⟨k-1,by omega⟩
  simp only[List.map_cons,List.sum_cons]at hm
  have hi:pre.length<ys.length:=by rw[e];simp[mks]
  have e1:ys[pre.length]=(mk x m).1:=by subst e;simp[mks]
  have h1:=h (ac step k) x m pre.length hi e1 (hP x (List.mem_cons_self ..)) h0 (by omega)
  show step (ac step k) _=_
  rw[h1]
  have h2:=ih (pre++[(mk x m).1]) (mk x m).2 k (by rw[e];simp[mks]) (by omega) (fun y hy=>hP y (List.mem_cons_of_mem _ hy)) (by rw[hW];omega) (by rw[hW];omega)
  simp only[List.length_append,List.length_cons,List.length_nil,Nat.zero_add]at h2
  rw[h2]
  rfl
def d7 (_:Int)(m:Int):Int×Int:=(m,m+1)
def bS (_:ao)(m:Int):ao×Int:=((m,m+1,m+1+1,(Int.tmod (m+1+1+1) 3==0)),m+1+1+1+1)
def dn (x:aE)(m:Int):aE×Int:=(((bS x.1 m).1,m+1+1+1+1),m+1+1+1+1+1)
def cV (d:bi)(m:Int):bi×Int:=((m,m+1,m+1+1,(mks d7 d.2.2.2 (m+1+1+1)).1),(mks d7 d.2.2.2 (m+1+1+1)).2)
def dg (d:d6)(m:Int):d6×Int:=((m,(m+1,m+1+1,m+1+1+1,m+1+1+1+1),(mks d7 d.2.2 (m+1+1+1+1+1)).1),(mks d7 d.2.2 (m+1+1+1+1+1)).2)
def cm (d:bU)(m:Int):bU×Int:=((m,(mks bS d.2 (m+1)).1),(mks bS d.2 (m+1)).2)
def iF (_:Int):Nat:=1
def eV (_:ao):Nat:=4
def ik (_:aE):Nat:=5
def fA (d:bi):Nat:=3+(d.2.2.2.map iF).sum
def fC (d:d6):Nat:=5+(d.2.2.map iF).sum
def dU (d:bU):Nat:=1+(d.2.map eV).sum
theorem ja (x:Int)(m:Int):(d7 x m).2=m+iF x:=by simp[d7,iF]
theorem ba (x:ao)(m:Int):(bS x m).2=m+eV x:=by simp only[bS,eV];omega
theorem bV (x:aE)(m:Int):(dn x m).2=m+ik x:=by simp only[dn,ik];omega
theorem cn (x:bi)(m:Int):(cV x m).2=m+fA x:=by simp only[cV,fA,au ja];omega
theorem eo (x:d6)(m:Int):(dg x m).2=m+fC x:=by simp only[dg,fC,au ja];omega
theorem il (x:bU)(m:Int):(cm x m).2=m+dU x:=by simp only[cm,dU,au ba];omega
theorem mB (K:Nat)(xs:List Int)(m:Int)(hx:xs.length≤1048576)(h0:0≤m)(hm:m+((xs.map iF).sum:Nat)≤4611686018427387904)(hK:1048577<K) :
  Q50.f K (xs,m,())=some (((mks d7 xs m).2,()),((mks d7 xs m).1,())):=by
 refine fw (step:=fun rec a=>Q50.l0.step K (xs,m,()) rec a) d7 iF (fun _=>True) ja ?_ ?_ xs [] m K (by simpa using hx) (by omega) (fun _ _=>trivial) h0 hm
 ·intro rec ys m i hi hl _ h0 hm
  simp only[iF]at hm
  simp only[Q50.l0.step]
  rw[bj (by omega:(i:Int)<(List.length ys:Int)),ag hi,aq i (by omega),wrp h0 (by omega)]
  simp only[cond_true,Option.bind_some,Int.toNat_natCast,ag hi]
  rfl
 ·intro rec ys m
  simp only[Q50.l0.step,aI]
  rfl
theorem jk (K:Nat)(xs:List ao)(m:Int)(hx:xs.length≤1048576)(h0:0≤m)(hm:m+((xs.map eV).sum:Nat)≤4611686018427387904)(hK:1048577<K) :
  Q48.f K (xs,m,())=some (((mks bS xs m).2,()),((mks bS xs m).1,())):=by
 refine fw (step:=fun rec a=>Q48.l0.step K (xs,m,()) rec a) bS eV (fun _=>True) ba ?_ ?_ xs [] m K (by simpa using hx) (by omega) (fun _ _=>trivial) h0 hm
 ·intro rec ys m i hi hl _ h0 hm
  simp only[eV]at hm
  simp only[Q48.l0.step]
  rw[bj (by omega:(i:Int)<(List.length ys:Int)),ag hi,aq i (by omega)]
  simp (disch:=omega) only [wrp,cond_true,Option.bind_some,Int.toNat_natCast,List.set_set,i9 hi,ag hi]
  rfl
 ·intro rec ys m
  simp only[Q48.l0.step,aI]
  rfl
theorem qr (K:Nat)(xs:List aE)(m:Int)(hx:xs.length≤1048576)(h0:0≤m)(hm:m+((xs.map ik).sum:Nat)≤4611686018427387904)(hK:1048577<K) :
  Q49.f K (xs,m,())=some (((mks dn xs m).2,()),((mks dn xs m).1,())):=by
 refine fw (step:=fun rec a=>Q49.l0.step K (xs,m,()) rec a) dn ik (fun _=>True) bV ?_ ?_ xs [] m K (by simpa using hx) (by omega) (fun _ _=>trivial) h0 hm
 ·intro rec ys m i hi hl _ h0 hm
  simp only[ik]at hm
  simp only[Q49.l0.step]
  rw[bj (by omega:(i:Int)<(List.length ys:Int)),ag hi,aq i (by omega)]
  simp (disch:=omega) only [wrp,cond_true,Option.bind_some,Int.toNat_natCast,List.set_set,i9 hi,ag hi]
  rfl
 ·intro rec ys m
  simp only[Q49.l0.step,aI]
  rfl
theorem pK (K:Nat)(xs:List bi)(m:Int)(hx:xs.length≤1048576)(hb:∀ y∈xs,y.2.2.2.length≤1048576)(h0:0≤m)(hm:m+((xs.map fA).sum:Nat)≤4611686018427387904)(hK:1048577<K) :
  Q51.f K (xs,m,())=some (((mks cV xs m).2,()),((mks cV xs m).1,())):=by
 refine fw (step:=fun rec a=>Q51.l0.step K (xs,m,()) rec a) cV fA (fun y=>y.2.2.2.length≤1048576) cn ?_ ?_ xs [] m K (by simpa using hx) (by omega) hb h0 hm
 ·intro rec ys m i hi hl hb h0 hm
  simp only[fA]at hm
  simp only[Q51.l0.step]
  rw[bj (by omega:(i:Int)<(List.length ys:Int)),ag hi,aq i (by omega)]
  simp (disch:=omega) only [wrp,cond_true,Option.bind_some,Int.toNat_natCast,List.set_set,i9 hi,ag hi]
  rw[mB K _ _ hb (by omega) (by omega) hK]
  rfl
 ·intro rec ys m
  simp only[Q51.l0.step,aI]
  rfl
theorem pL (K:Nat)(xs:List d6)(m:Int)(hx:xs.length≤1048576)(hb:∀ y∈xs,y.2.2.length≤1048576)(h0:0≤m)(hm:m+((xs.map fC).sum:Nat)≤4611686018427387904)(hK:1048577<K) :
  Q52.f K (xs,m,())=some (((mks dg xs m).2,()),((mks dg xs m).1,())):=by
 refine fw (step:=fun rec a=>Q52.l0.step K (xs,m,()) rec a) dg fC (fun y=>y.2.2.length≤1048576) eo ?_ ?_ xs [] m K (by simpa using hx) (by omega) hb h0 hm
 ·intro rec ys m i hi hl hb h0 hm
  simp only[fC]at hm
  simp only[Q52.l0.step]
  rw[bj (by omega:(i:Int)<(List.length ys:Int)),ag hi,aq i (by omega)]
  simp (disch:=omega) only [wrp,cond_true,Option.bind_some,Int.toNat_natCast,List.set_set,i9 hi,ag hi]
  rw[mB K _ _ hb (by omega) (by omega) hK]
  rfl
 ·intro rec ys m
  simp only[Q52.l0.step,aI]
  rfl
theorem nS (K:Nat)(xs:List bU)(m:Int)(hx:xs.length≤1048576)(hb:∀ y∈xs,y.2.length≤1048576)(h0:0≤m)(hm:m+((xs.map dU).sum:Nat)≤4611686018427387904)(hK:1048577<K) :
  Q53.f K (xs,m,())=some (((mks cm xs m).2,()),((mks cm xs m).1,())):=by
 refine fw (step:=fun rec a=>Q53.l0.step K (xs,m,()) rec a) cm dU (fun y=>y.2.length≤1048576) il ?_ ?_ xs [] m K (by simpa using hx) (by omega) hb h0 hm
 ·intro rec ys m i hi hl hb h0 hm
  simp only[dU]at hm
  simp only[Q53.l0.step]
  rw[bj (by omega:(i:Int)<(List.length ys:Int)),ag hi,aq i (by omega)]
  simp (disch:=omega) only [wrp,cond_true,Option.bind_some,Int.toNat_natCast,List.set_set,i9 hi,ag hi]
  rw[jk K _ _ hb (by omega) (by omega) hK]
  rfl
 ·intro rec ys m
  simp only[Q53.l0.step,aI]
  rfl
end Go.Proofs.YthgnfidnmnkeaaaGreatEv
namespace Go.Proofs.YthgnfidnmnkeaaaGreatEv
open Go
theorem gV {a:Int}(h:0≤a):decide (a<0)=false:=decide_eq_false (by omega)
theorem ki {α:Type}{W:α→Nat}{c:Nat}:∀ {xs:List α},(∀ x∈xs,W x≤c)→(xs.map W).sum≤xs.length*c
 |[],_=>by simp
 |x::xs,h=>by
  have h1:=h x (List.mem_cons_self ..)
  have h2:=ki (xs:=xs) (fun y hy=>h y (List.mem_cons_of_mem _ hy))
  simp only[List.map_cons,List.sum_cons,List.length_cons,Nat.succ_mul]
  omega
theorem lq {α:Type}{W:α→Nat}{xs:List α}(hx:xs.length≤1048576){c:Nat}(hc:c≤4194309)(h:∀ x∈xs,W x≤c):(xs.map W).sum≤1048576*4194309 :=
 Nat.le_trans (ki h) (Nat.mul_le_mul hx hc)
theorem qs {xs:List Int}(h:xs.length≤1048576):(xs.map iF).sum≤1048576:=by
 have:=ki (W:=iF) (c:=1) (xs:=xs) (fun _ _=>Nat.le_refl _)
 omega
theorem uu {xs:List ao}(h:xs.length≤1048576):(xs.map eV).sum≤4194304:=by
 have:=ki (W:=eV) (c:=4) (xs:=xs) (fun _ _=>Nat.le_refl _)
 omega
def jD (n:Node):Nat:=(((Node.table n).map eV).sum+((Node.cast n).map ik).sum+((Node.doubts n).map fA).sum+((Node.places n).map fC).sum+((Node.others n).map dU).sum)
def qt (n:Node)(t:List ao)(c:List aE)(d:List bi)(p:List d6)(o:List bU):Node :=
 (n.1,n.2.1,n.2.2.1,n.2.2.2.1,n.2.2.2.2.1,n.2.2.2.2.2.1,n.2.2.2.2.2.2.1,n.2.2.2.2.2.2.2.1,t,c,ae n,d,cA n,p,o)
def dp (n:Node)(m:Int):Node×Int :=
 let a:=mks bS (Node.table n) m
 let b:=mks dn (Node.cast n) a.2
 let c:=mks cV (Node.doubts n) b.2
 let d:=mks dg (Node.places n) c.2
 let e:=mks cm (Node.others n) d.2
 (qt n a.1 b.1 c.1 d.1 e.1,e.2)
theorem gh (n:Node)(m:Int):(dp n m).2=m+jD n:=by
 simp only[dp,jD,au ba,au bV,au cn,au eo,au il]
 omega
theorem qu {n:Node}(hn:NB n):jD n≤5*(1048576*4194309):=by
 have h1:=lq (W:=eV) (c:=4) hn.table (by omega) (fun _ _=>Nat.le_refl _)
 have h2:=lq (W:=ik) (c:=5) hn.cast (by omega) (fun _ _=>Nat.le_refl _)
 have h3:=lq (W:=fA) (c:=1048580) hn.doubts (by omega) (fun x hx=>by
  have:=qs (hn.by_ x hx)
  simp only[fA];omega)
 have h4:=lq (W:=fC) (c:=1048581) hn.places (by omega) (fun x hx=>by
  have:=qs (hn.trips x hx)
  simp only[fC];omega)
 have h5:=lq (W:=dU) (c:=4194305) hn.others (by omega) (fun x hx=>by
  have:=uu (hn.facts x hx)
  simp only[dU];omega)
 simp only[jD]
 omega
theorem mC (K:Nat)(n:Node)(hn:NB n)(m:Int)(h0:0≤m)(hm:m+jD n≤4611686018427387904)(hK:1048577<K) :
  Q54.f K (n,m,())=some (((dp n m).2,()),((dp n m).1,())):=by
 simp only[jD]at hm
 simp only[Q54.f]
 rw[jk K _ m hn.table h0 (by omega) hK]
 simp only[Option.bind_some]
 rw[qr K _ _ hn.cast (by rw[au ba];omega) (by rw[au ba];omega) hK]
 simp only[Option.bind_some]
 rw[pK K _ _ hn.doubts hn.by_ (by rw[au bV,au ba];omega) (by rw[au bV,au ba];omega) hK]
 simp only[Option.bind_some]
 rw[pL K _ _ hn.places hn.trips (by rw[au cn,au bV,au ba];omega) (by rw[au cn,au bV,au ba];omega) hK]
 simp only[Option.bind_some]
 rw[nS K _ _ hn.others hn.facts (by rw[au eo,au cn,au bV,au ba];omega) (by rw[au eo,au cn,au bV,au ba];omega) hK]
 rfl
theorem mD (K:Nat)(xs:List Int)(m:Int)(hx:xs.length≤1048576)(h0:0≤m)(hm:m+((xs.map iF).sum:Nat)≤4611686018427387904)(hK:1048577<K) :
  Q60.f K ((mks d7 xs m).1,m,())=some (((mks d7 xs m).2,()),()):=by
 refine fy (step:=fun rec a=>Q60.l0.step K ((mks d7 xs m).1,m,()) rec a) d7 iF (fun _=>True) ja (mks d7 xs m).1 (by rw[bk];exact hx) ?_ ?_ xs [] m K rfl (by omega) (fun _ _=>trivial) h0 hm
 ·intro rec x m' i hi e _ h0 hm
  simp only[iF]at hm
  rw[bk]at hi
  simp only[Q60.l0.step]
  rw[bj (by rw[bk];omega:(i:Int)<(List.length (mks d7 xs m).1:Int)),ag (by rw[bk];exact hi),aq i (by omega),e]
  simp (disch:=omega) only [wrp,cond_true,Option.bind_some,d7,bne_self_eq_false,cond_false]
 ·intro rec m'
  simp only[Q60.l0.step,aI]
  rfl
theorem jl (K:Nat)(xs:List ao)(m:Int)(hx:xs.length≤1048576)(h0:0≤m)(hm:m+((xs.map eV).sum:Nat)≤4611686018427387904)(hK:1048577<K) :
  Q58.f K ((mks bS xs m).1,m,())=some (((mks bS xs m).2,()),()):=by
 refine fy (step:=fun rec a=>Q58.l0.step K ((mks bS xs m).1,m,()) rec a) bS eV (fun _=>True) ba (mks bS xs m).1 (by rw[bk];exact hx) ?_ ?_ xs [] m K rfl (by omega) (fun _ _=>trivial) h0 hm
 ·intro rec x m' i hi e _ h0 hm
  simp only[eV]at hm
  rw[bk]at hi
  simp only[Q58.l0.step]
  rw[bj (by rw[bk];omega:(i:Int)<(List.length (mks bS xs m).1:Int)),ag (by rw[bk];exact hi),aq i (by omega),e]
  simp (disch:=omega) only [wrp,cond_true,Option.bind_some,bS,bne_self_eq_false,cond_false]
 ·intro rec m'
  simp only[Q58.l0.step,aI]
  rfl
theorem qv (K:Nat)(xs:List aE)(m:Int)(hx:xs.length≤1048576)(h0:0≤m)(hm:m+((xs.map ik).sum:Nat)≤4611686018427387904)(hK:1048577<K) :
  Q59.f K ((mks dn xs m).1,m,())=some (((mks dn xs m).2,()),()):=by
 refine fy (step:=fun rec a=>Q59.l0.step K ((mks dn xs m).1,m,()) rec a) dn ik (fun _=>True) bV (mks dn xs m).1 (by rw[bk];exact hx) ?_ ?_ xs [] m K rfl (by omega) (fun _ _=>trivial) h0 hm
 ·intro rec x m' i hi e _ h0 hm
  simp only[ik]at hm
  rw[bk]at hi
  simp only[Q59.l0.step]
  rw[bj (by rw[bk];omega:(i:Int)<(List.length (mks dn xs m).1:Int)),ag (by rw[bk];exact hi),aq i (by omega),e]
  simp (disch:=omega) only [wrp,cond_true,Option.bind_some,dn,bS,bne_self_eq_false,cond_false]
 ·intro rec m'
  simp only[Q59.l0.step,aI]
  rfl
theorem pM (K:Nat)(xs:List bi)(m:Int)(hx:xs.length≤1048576)(hb:∀ y∈xs,y.2.2.2.length≤1048576)(h0:0≤m)(hm:m+((xs.map fA).sum:Nat)≤4611686018427387904)(hK:1048577<K) :
  Q61.f K ((mks cV xs m).1,m,())=some (((mks cV xs m).2,()),()):=by
 refine fy (step:=fun rec a=>Q61.l0.step K ((mks cV xs m).1,m,()) rec a) cV fA (fun y=>y.2.2.2.length≤1048576) cn (mks cV xs m).1 (by rw[bk];exact hx) ?_ ?_ xs [] m K rfl (by omega) hb h0 hm
 ·intro rec x m' i hi e hb h0 hm
  simp only[fA]at hm
  rw[bk]at hi
  simp only[Q61.l0.step]
  rw[bj (by rw[bk];omega:(i:Int)<(List.length (mks cV xs m).1:Int)),ag (by rw[bk];exact hi),aq i (by omega),e]
  simp (disch:=omega) only [wrp,cond_true,Option.bind_some,cV,bne_self_eq_false,cond_false]
  rw[mD K _ _ hb (by omega) (by omega) hK]
  simp only[Option.bind_some]
  rw[gV (a:=(mks d7 _ _).2) (by rw[au ja];omega)]
  rfl
 ·intro rec m'
  simp only[Q61.l0.step,aI]
  rfl
theorem pN (K:Nat)(xs:List d6)(m:Int)(hx:xs.length≤1048576)(hb:∀ y∈xs,y.2.2.length≤1048576)(h0:0≤m)(hm:m+((xs.map fC).sum:Nat)≤4611686018427387904)(hK:1048577<K) :
  Q62.f K ((mks dg xs m).1,m,())=some (((mks dg xs m).2,()),()):=by
 refine fy (step:=fun rec a=>Q62.l0.step K ((mks dg xs m).1,m,()) rec a) dg fC (fun y=>y.2.2.length≤1048576) eo (mks dg xs m).1 (by rw[bk];exact hx) ?_ ?_ xs [] m K rfl (by omega) hb h0 hm
 ·intro rec x m' i hi e hb h0 hm
  simp only[fC]at hm
  rw[bk]at hi
  simp only[Q62.l0.step]
  rw[bj (by rw[bk];omega:(i:Int)<(List.length (mks dg xs m).1:Int)),ag (by rw[bk];exact hi),aq i (by omega),e]
  simp (disch:=omega) only [wrp,cond_true,Option.bind_some,dg,bne_self_eq_false,cond_false]
  rw[mD K _ _ hb (by omega) (by omega) hK]
  simp only[Option.bind_some]
  rw[gV (a:=(mks d7 _ _).2) (by rw[au ja];omega)]
  rfl
 ·intro rec m'
  simp only[Q62.l0.step,aI]
  rfl
theorem nT (K:Nat)(xs:List bU)(m:Int)(hx:xs.length≤1048576)(hb:∀ y∈xs,y.2.length≤1048576)(h0:0≤m)(hm:m+((xs.map dU).sum:Nat)≤4611686018427387904)(hK:1048577<K) :
  Q63.f K ((mks cm xs m).1,m,())=some (((mks cm xs m).2,()),()):=by
 refine fy (step:=fun rec a=>Q63.l0.step K ((mks cm xs m).1,m,()) rec a) cm dU (fun y=>y.2.length≤1048576) il (mks cm xs m).1 (by rw[bk];exact hx) ?_ ?_ xs [] m K rfl (by omega) hb h0 hm
 ·intro rec x m' i hi e hb h0 hm
  simp only[dU]at hm
  rw[bk]at hi
  simp only[Q63.l0.step]
  rw[bj (by rw[bk];omega:(i:Int)<(List.length (mks cm xs m).1:Int)),ag (by rw[bk];exact hi),aq i (by omega),e]
  simp (disch:=omega) only [wrp,cond_true,Option.bind_some,cm,bne_self_eq_false,cond_false]
  rw[jl K _ _ hb (by omega) (by omega) hK]
  simp only[Option.bind_some]
  rw[gV (a:=(mks bS _ _).2) (by rw[au ba];omega)]
  rfl
 ·intro rec m'
  simp only[Q63.l0.step,aI]
  rfl
theorem rV (K:Nat)(n:Node)(hn:NB n)(m:Int)(h0:0≤m)(hm:m+jD n≤4611686018427387904)(hK:1048577<K) :
  Q64.f K ((dp n m).1,m,())=some (((dp n m).2,()),()):=by
 simp only[jD]at hm
 simp only[Q64.f,dp,qt]
 rw[jl K _ m hn.table h0 (by omega) hK]
 simp only[Option.bind_some]
 rw[gV (a:=(mks bS (Node.table n) m).2) (by rw[au ba];omega),qv K _ _ hn.cast (by rw[au ba];omega) (by rw[au ba];omega) hK]
 simp only[Option.bind_some,cond_false]
 rw[gV (a:=(mks dn (Node.cast n) (mks bS (Node.table n) m).2).2) (by rw[au bV,au ba];omega),pM K _ _ hn.doubts hn.by_ (by rw[au bV,au ba];omega) (by rw[au bV,au ba];omega) hK]
 simp only[Option.bind_some,cond_false]
 rw[gV (a:=(mks cV (Node.doubts n) (mks dn (Node.cast n) (mks bS (Node.table n) m).2).2).2) (by rw[au cn,au bV,au ba];omega),pN K _ _ hn.places hn.trips (by rw[au cn,au bV,au ba];omega) (by rw[au cn,au bV,au ba];omega) hK]
 simp only[Option.bind_some,cond_false]
 rw[gV (a:=(mks dg (Node.places n) (mks cV (Node.doubts n) (mks dn (Node.cast n) (mks bS (Node.table n) m).2).2).2).2) (by rw[au eo,au cn,au bV,au ba];omega),nT K _ _ hn.others hn.facts (by rw[au eo,au cn,au bV,au ba];omega) (by rw[au eo,au cn,au bV,au ba];omega) hK]
 simp only[Option.bind_some,cond_false]
 rw[gV (a:=(mks cm (Node.others n) (mks dg (Node.places n) (mks cV (Node.doubts n) (mks dn (Node.cast n) (mks bS (Node.table n) m).2).2).2).2).2) (by rw[au il,au eo,au cn,au bV,au ba];omega)]
 rfl
end Go.Proofs.YthgnfidnmnkeaaaGreatEv
namespace Go.Proofs.YthgnfidnmnkeaaaGreatEv
open Go
theorem jS {α β R:Type}(t:List α)(p:α→Bool)(g:α→β)(n:Nat)(fin:List β→Option R){step:(List β×Int→Option R)→List β×Int→Option R}
  (h:∀ (rec:List β×Int→Option R) (acc:List β) (i:Nat) (hi:i<t.length),acc.length≤i→acc.length<n→step rec (acc,(i:Int))=rec (bif p t[i] then acc++[g t[i]] else acc,((i+1:Nat):Int)))
  (hn:∀ (rec:List β×Int→Option R) (acc:List β) (i:Nat),i<t.length→acc.length≤i→n≤acc.length→step rec (acc,(i:Int))=fin acc)
  (hend:∀ (rec:List β×Int→Option R) (acc:List β),acc.length≤t.length→step rec (acc,(t.length:Int))=fin acc) :
  ∀ (d i k:Nat) (acc:List β),i+d=t.length→d<k→acc.length≤i→acc.length≤n→ac step k (acc,(i:Int))=fin (acc++(((t.drop i).filter p).map g).take (n-acc.length)):=by
 intro d
 induction d with
 |zero =>
  intro i k acc hi hk ha _
  obtain⟨k,rfl⟩:∃ k',k=k'+1:=⟨k-1,by omega⟩
  have:i=t.length:=by omega
  subst this
  show step (ac step k) _=_
  rw[hend _ _ ha]
  simp
 |succ d ih =>
  intro i k acc hi hk ha hle
  obtain⟨k,rfl⟩:∃ k',k=k'+1:=⟨k-1,by omega⟩
  have hlt:i<t.length:=by omega
  show step (ac step k) _=_
  by_cases hc:acc.length<n
  ·rw[h _ _ _ hlt ha hc,List.drop_eq_getElem_cons hlt,List.filter_cons]
   cases hp:p t[i] with
   |true =>
    simp only[cond_true,if_true,List.map_cons]
    rw[ih (i+1) k _ (by omega) (by omega) (by simp;omega) (by simp;omega)]
    congr 1
    obtain⟨m,hm⟩:∃ m,n-acc.length=m+1:=⟨n-acc.length-1,by omega⟩
    rw[hm,List.take_succ_cons,List.append_assoc]
    simp only[List.length_append,List.length_cons,List.length_nil]
    rw[show n-(acc.length+(0+1))=m by omega]
    rfl
   |false =>
    simp only[cond_false]
    rw[ih (i+1) k _ (by omega) (by omega) (by omega) (by omega)]
    rfl
  ·rw[hn _ _ _ hlt ha (by omega)]
   rw[show n-acc.length=0 by omega]
   simp
theorem nU {α β R:Type}(t:List α)(p:α→Bool)(g:α→β)(fin:List β→Option R){step:(List β×Int→Option R)→List β×Int→Option R}
  (h:∀ (rec:List β×Int→Option R) (acc:List β) (i:Nat) (hi:i<t.length),acc.length≤i→step rec (acc,(i:Int))=rec (bif p t[i] then acc++[g t[i]] else acc,((i+1:Nat):Int)))
  (hend:∀ (rec:List β×Int→Option R) (acc:List β),acc.length≤t.length→step rec (acc,(t.length:Int))=fin acc) {k:Nat} (hk:t.length<k) :
  ac step k ([],0)=fin ((t.filter p).map g):=by
 have:=jS t p g (t.length+1) fin (fun rec acc i hi ha _=>h rec acc i hi ha) (fun rec acc i hi ha hn=>by omega) hend t.length 0 k [] (by omega) hk (Nat.le_refl _) (by simp)
 refine this.trans ?_
 congr 1
 simp only[List.nil_append,List.length_nil,List.drop_zero]
 exact List.take_of_length_le (by have:=List.length_filter_le p t;simp;omega)
theorem dx {e:Ty}{b:Nat}{xs:List e.den}(h:xs.length*b≤140737488355328):el e b xs=some ((xs,()),()):=by
 unfold el
 rw[decide_eq_true (by simpa[an]using h)]
 rfl
theorem uv {α β:Type}{xs ys:List α}{b:Nat}{x y:β}(h:(xs.length+ys.length)*b≤140737488355328):(bif decide ((List.length xs+List.length ys)*b≤an) then x else y)=x:=by
 rw[decide_eq_true (by simpa[an]using h)]
 rfl
theorem oH (K:Nat)(xs:List Int)(n:Int)(hx:xs.length≤1048576):Q156.f K (xs,n,())=some ((xs.take n.toNat,()),()):=by
 simp only[Q156.f,Q155.f,Option.bind_some,Q8.f]
 obtain⟨c,hc,h0,h1,h2⟩:∃ c:Int,(bif decide (0<(bif decide ((xs.length:Int)<n) then (xs.length:Int) else n)) then bif decide ((xs.length:Int)<n) then (xs.length:Int) else n else 0)=c∧0≤c∧c≤xs.length∧xs.take c.toNat=xs.take n.toNat:=by
  by_cases h:(xs.length:Int)<n
  ·rw[decide_eq_true h]
   simp only[cond_true]
   by_cases h2:0<(xs.length:Int)
   ·rw[decide_eq_true h2]
    refine⟨_,rfl,by simp,by simp,?_⟩
    simp only[cond_true]
    rw[List.take_of_length_le (by omega),List.take_of_length_le (by omega)]
   ·rw[decide_eq_false h2]
    refine⟨_,rfl,by simp,by simp,?_⟩
    have:xs=[]:=List.eq_nil_of_length_eq_zero (by omega)
    subst this
    simp
  ·rw[decide_eq_false h]
   simp only[cond_false]
   by_cases h2:0<n
   ·rw[decide_eq_true h2]
    exact⟨_,rfl,by simp;omega,by simp;omega,rfl⟩
   ·rw[decide_eq_false h2]
    refine⟨_,rfl,by simp,by simp,?_⟩
    simp only[cond_false]
    rw[show n.toNat=0 by omega]
    rfl
 rw[hc,decide_eq_true h0,decide_eq_true h1]
 simp only[Int.toNat_zero,List.drop_zero,decide_true,Bool.and_self,cond_true]
 rw[dx (by
  have:=List.length_take_le c.toNat xs
  have h3:(List.take c.toNat xs).length≤1048576:=by omega
  omega)]
 simp only[Option.bind_some]
 rw[h2]
 rfl
theorem oI (K:Nat)(t:List ao)(φ:ao×Unit→Option Bool)(p:ao→Bool)(ht:t.length≤1048576)(hK:1048577<K)(hφ:∀ f∈t,φ (f,())=some (p f)) :
  Q157.f K (t,φ,())=some (((t.filter p).map (·.1),()),()):=by
 refine nU (step:=fun rec a=>Q157.l0.step K (t,φ,()) rec a) t p (fun f=>f.1) (fun xs=>some ((xs,()),())) ?_ ?_ (by omega)
 ·intro rec acc i hi ha
  simp only[Q157.l0.step]
  rw[bj (by omega:(i:Int)<(List.length t:Int)),ag hi,aq i (by omega)]
  simp only[cond_true,Option.bind_some]
  rw[hφ _ (List.getElem_mem hi)]
  simp only[Option.bind_some]
  cases p t[i] with
  |true=>simp only[cond_true];rw[uv (by simp;omega)]
  |false=>rfl
 ·intro rec acc _
  simp only[Q157.l0.step,aI]
  rfl
def gy (f:ao):Bool:=f.2.2.2&&f.2.2.1==1
def eq (t:List ao):List Int:=((t.filter gy).map (·.1)).take 2
theorem sC (K:Nat)(t:List ao)(ht:t.length≤1048576)(hK:1048577<K):Q100.f K (t,2,())=some ((eq t,()),()):=by
 have:=jS (step:=fun rec a=>Q100.l0.step K (t,2,()) rec a) t gy (fun f=>f.1) 2 (fun xs=>some ((xs,()),())) ?_ ?_ ?_ t.length 0 K [] (by omega) (by omega) (Nat.le_refl _) (by simp)
 ·exact this
 ·intro rec acc i hi ha hn
  simp only[Q100.l0.step]
  rw[bj (by omega:(i:Int)<(List.length t:Int)),ag hi,aq i (by omega),decide_eq_true (by omega:(List.length acc:Int)<2)]
  simp only[cond_true,Option.bind_some,gy]
  cases t[i].2.2.2 with
  |true =>
   simp only[cond_true,Bool.true_and]
   cases t[i].2.2.1==1 with
   |true=>simp only[cond_true];rw[uv (by simp;omega)]
   |false=>rfl
  |false=>rfl
 ·intro rec acc i hi ha hn
  simp only[Q100.l0.step]
  rw[bj (by omega:(i:Int)<(List.length t:Int)),decide_eq_false (by omega:¬ (List.length acc:Int)<2)]
  rfl
 ·intro rec acc _
  simp only[Q100.l0.step,aI]
  rfl
theorem sD (K:Nat)(t:List ao)(ht:t.length≤1048576)(hK:1048577<K)(hT:aT t):Q183.f K (t,2,())=some ((eq t,()),()):=by
 obtain⟨b,h1,h2⟩:=iu K t ht hK
 simp only[Q183.f]
 rw[h1]
 simp only[Option.bind_some,h2.2 hT,Bool.not_true,cond_false]
 rw[oI K t _ gy ht hK (fun f _=>by
  simp only[Q182.f,gy]
  cases f.2.2.2 <;> rfl)]
 simp only[Option.bind_some]
 rw[oH K _ 2 (by have:=List.length_filter_le gy t;simp;omega)]
 rfl
theorem pa (t:List ao):(eq t).length≤2:=by
 unfold eq
 exact List.length_take_le _ _
def er (l:List bU)(s:Int):List ao:=((l.find? fun x=>x.1==s).map (·.2)).getD []
theorem tt {R:Type}(l:List bU)(s:Int)(fin:List ao→Option R){step:(Int→Option R)→Int→Option R}
  (h:∀ (rec:Int→Option R) (i:Nat) (hi:i<l.length),step rec (i:Int)=bif l[i].1==s then fin l[i].2 else rec ((i+1:Nat):Int))
  (hend:∀ rec:Int→Option R,step rec (l.length:Int)=fin []) :
  ∀ (d i k:Nat),i+d=l.length→d<k→ac step k (i:Int)=fin (er (l.drop i) s):=by
 intro d
 induction d with
 |zero =>
  intro i k hi hk
  obtain⟨k,rfl⟩:∃ k',k=k'+1:=⟨k-1,by omega⟩
  have:i=l.length:=by omega
  subst this
  show step (ac step k) _=_
  rw[hend]
  simp[er]
 |succ d ih =>
  intro i k hi hk
  obtain⟨k,rfl⟩:∃ k',k=k'+1:=⟨k-1,by omega⟩
  have hlt:i<l.length:=by omega
  show step (ac step k) _=_
  rw[h _ _ hlt,List.drop_eq_getElem_cons hlt]
  simp only[er,List.find?_cons]
  cases l[i].1==s with
  |true=>rfl
  |false=>exact ih (i+1) k (by omega) (by omega)
theorem wH (K:Nat)(n:Node)(s:Int)(hn:NB n)(hK:1048577<K):Q184.f K (n,s,())=some ((er (Node.others n) s,()),()):=by
 have hl:=hn.others
 refine tt (step:=fun rec a=>Q184.l0.step K (n,s,()) rec a) (Node.others n) s (fun t=>some ((t,()),())) ?_ ?_ (Node.others n).length 0 K (by omega) (by omega)
 ·intro rec i hi
  simp only[Q184.l0.step]
  rw[bj (by omega:(i:Int)<(List.length (Node.others n):Int)),ag hi,aq i (by omega)]
  rfl
 ·intro rec
  simp only[Q184.l0.step,aI]
  rfl
theorem uw {l:List bU}{s:Int}:er l s=[]∨∃ x∈l,x.1=s∧er l s=x.2:=by
 unfold er
 cases h:l.find? fun x=>x.1==s with
 |none=>exact .inl rfl
 |some x=>exact .inr ⟨x,List.mem_of_find?_eq_some h,by simpa using List.find?_some h,rfl⟩
end Go.Proofs.YthgnfidnmnkeaaaGreatEv
namespace Go.Proofs.YthgnfidnmnkeaaaGreatEv
open Go
def c6 {α:Type}(lt:α→α→Bool)(x:α):List α→List α→List α
 |[],B=>x::B
 |y::A,B=>bif lt x y then c6 lt x A (y::B) else (y::A).reverse++x::B
def co {α:Type}(lt:α→α→Bool):List α→List α→List α
 |done,[]=>done
 |done,x::xs=>co lt (c6 lt x done.reverse []) xs
theorem nh {α:Type}(lt:α→α→Bool)(x:α):∀ (A B C:List α),c6 lt x A (B++C)=c6 lt x A B++C
 |[],B,C=>rfl
 |y::A,B,C=>by
  simp only[c6]
  cases lt x y with
  |true=>exact nh lt x A (y::B) C
  |false=>simp
theorem ni {α:Type}(lt:α→α→Bool)(x:α):∀ (A B:List α),(c6 lt x A B).length=A.length+B.length+1
 |[],B=>by simp[c6]
 |y::A,B=>by
  simp only[c6]
  cases lt x y with
  |true=>simp only[cond_true];rw[ni lt x A (y::B)];simp;omega
  |false=>simp;omega
theorem lr {α:Type}(lt:α→α→Bool)(x:α):∀ (A B:List α),(c6 lt x A B).Perm (x::(A.reverse++B))
 |[],B=>by simp[c6]
 |y::A,B=>by
  simp only[c6]
  cases lt x y with
  |true=>exact (lr lt x A (y::B)).trans (by simp)
  |false=>simp only[cond_false];exact List.perm_middle
theorem kF {α:Type}(lt:α→α→Bool):∀ (xs done:List α),(co lt done xs).Perm (done++xs)
 |[],done=>by simp[co]
 |x::xs,done=>by
  simp only[co]
  refine (kF lt xs _).trans ?_
  have:=lr lt x done.reverse []
  simp only[List.reverse_reverse,List.append_nil]at this
  exact (this.append_right xs).trans (by simpa using (List.perm_middle (a:=x) (l₁:=done) (l₂:=xs)).symm)
def iG {α:Type}(lt:α→α→Bool)(xs:List α):Prop:=xs.Pairwise fun a b=>lt b a=false
theorem jT {α:Type}(lt:α→α→Bool)(ht:∀ a b c,lt a b=false→lt b c=false→lt a c=false)(x:α) :
  ∀ (A B:List α),iG lt A.reverse→c6 lt x A B=(A.reverse.filter fun y=>!lt x y)++x::((A.reverse.filter fun y=>lt x y)++B)
 |[],B,_=>rfl
 |y::A,B,h=>by
  simp only[c6]
  have hA:iG lt A.reverse:=by
   unfold iG at h ⊢
   rw[List.reverse_cons,List.pairwise_append]at h
   exact h.1
  cases hl:lt x y with
  |true =>
   simp only[cond_true]
   rw[jT lt ht x A (y::B) hA]
   simp[hl,List.filter_append]
  |false =>
   have hy:∀ a∈A.reverse,lt x a=false:=fun a ha=>by
    unfold iG at h
    rw[List.reverse_cons,List.pairwise_append]at h
    exact ht x y a hl (h.2.2 a ha y (by simp))
   simp only[cond_false]
   have e1:(y::A).reverse.filter (fun y=>!lt x y)=(y::A).reverse:=List.filter_eq_self.2 fun a ha=>by
    rw[List.reverse_cons,List.mem_append,List.mem_singleton]at ha
    rcases ha with ha|rfl
    ·rw[hy a ha];rfl
    ·rw[hl];rfl
   have e2:(y::A).reverse.filter (fun y=>lt x y)=[]:=List.filter_eq_nil_iff.2 fun a ha=>by
    rw[List.reverse_cons,List.mem_append,List.mem_singleton]at ha
    rcases ha with ha|rfl
    ·rw[hy a ha];simp
    ·rw[hl];simp
   rw[e1,e2]
   rfl
theorem tu {α:Type}(lt:α→α→Bool)(ht:∀ a b c,lt a b=false→lt b c=false→lt a c=false)(has:∀ a b,lt a b=true→lt b a=false)(x:α)(A:List α)(h:iG lt A):iG lt (c6 lt x A.reverse []):=by
 rw[jT lt ht x A.reverse [] (by rwa [List.reverse_reverse])]
 unfold iG at h ⊢
 simp only[List.reverse_reverse,List.append_nil]
 rw[List.pairwise_append]
 refine⟨h.filter _,?_,?_⟩
 ·rw[List.pairwise_cons]
  refine⟨fun a ha=>?_,h.filter _⟩
  exact has _ _ (by simpa using (List.mem_filter.1 ha).2)
 ·intro a ha b hb
  have h1:lt x a=false:=by simpa using (List.mem_filter.1 ha).2
  rcases List.mem_cons.1 hb with rfl|hb
  ·exact h1
  ·have h2:lt x b=true:=by simpa using (List.mem_filter.1 hb).2
   exact ht b x a (has _ _ h2) h1
theorem lu {α:Type}(lt:α→α→Bool)(ht:∀ a b c,lt a b=false→lt b c=false→lt a c=false)(has:∀ a b,lt a b=true→lt b a=false):∀ (xs done:List α),iG lt done→iG lt (co lt done xs)
 |[],done,h=>h
 |x::xs,done,h=>lu lt ht has xs _ (tu lt ht has x done h)
theorem mE {α:Type}(lt:α→α→Bool):∀ {ys zs:List α},ys.Perm zs→iG lt ys→zs.Pairwise (fun a b=>lt a b=true)→ys=zs
 |ys,[],hp,_,_=>hp.eq_nil
 |[],z::zs,hp,_,_=>absurd hp.symm.eq_nil (by simp)
 |y::ys,z::zs,hp,h1,h2=>by
  unfold iG at h1
  rw[List.pairwise_cons]at h1 h2
  have e:y=z:=by
   rcases List.mem_cons.1 (hp.mem_iff.1 (List.mem_cons_self ..)) with h|h
   ·exact h
   ·have h3:=h2.1 y h
    rcases List.mem_cons.1 (hp.symm.mem_iff.1 (List.mem_cons_self ..)) with h4|h4
    ·exact h4.symm
    ·rw[h1.1 z h4]at h3;cases h3
  subst e
  rw[mE lt hp.cons_inv h1.2 h2.2]
abbrev SoR (α:Type):=Unit×(List α×Unit)
theorem tv {α R:Type}(lt:α→α→Bool)(i:Int)(fin:List α×Int→Option R){step:(List α×Int×Int→Option R)→List α×Int×Int→Option R}
  (h:∀ (rec:List α×Int×Int→Option R) (A:List α) (y x:α) (B:List α),A.length+B.length≤1048576→step rec (A++y::x::B,i,((A.length+1:Nat):Int))=bif lt x y then rec (A++x::y::B,i,(A.length:Int)) else fin (A++y::x::B,wr .i64 (i+1)))
  (h0:∀ (rec:List α×Int×Int→Option R) (ys:List α),step rec (ys,i,0)=fin (ys,wr .i64 (i+1))) :
  ∀ (A B:List α) (x:α) (k:Nat),A.length+B.length≤1048576→A.length<k→ac step k (A.reverse++x::B,i,(A.length:Int))=fin (c6 lt x A B,wr .i64 (i+1)):=by
 intro A
 induction A with
 |nil =>
  intro B x k hl hk
  obtain⟨k,rfl⟩:∃ k',k=k'+1:=⟨k-1,by simp at hk;omega⟩
  exact h0 (ac step k) (x::B)
 |cons y A ih =>
  intro B x k hl hk
  simp only[List.length_cons]at hk hl
  obtain⟨k,rfl⟩:∃ k',k=k'+1:=⟨k-1,by omega⟩
  have h1:=h (ac step k) A.reverse y x B (by simp;omega)
  simp only[List.length_reverse]at h1
  show step (ac step k) _=_
  rw[List.reverse_cons,List.append_assoc]
  simp only[List.length_cons,List.cons_append,List.nil_append,c6]
  rw[h1]
  cases lt x y with
  |true=>exact ih (y::B) x k (by simp;omega) (by omega)
  |false=>simp
theorem rW {α:Type}(lt:α→α→Bool){step:(List α×Int→Option (SoR α))→List α×Int→Option (SoR α)}(n:Nat)(hn:n≤1048576)
  (h:∀ (rec:List α×Int→Option (SoR α)) (done:List α) (x:α) (xs:List α),done.length+1+xs.length=n→step rec (done++x::xs,(done.length:Int))=rec (c6 lt x done.reverse xs,wr .i64 ((done.length:Int)+1)))
  (h0:∀ (rec:List α×Int→Option (SoR α)) (ys:List α) (i:Int),(n:Int)≤i→step rec (ys,i)=some ((),(ys,()))) :
  ∀ (xs done:List α) (k:Nat),done.length+xs.length=n→xs.length<k→ac step k (done++xs,(done.length:Int))=some ((),(co lt done xs,())):=by
 intro xs
 induction xs with
 |nil =>
  intro done k hl hk
  obtain⟨k,rfl⟩:∃ k',k=k'+1:=⟨k-1,by omega⟩
  show step (ac step k) _=_
  rw[h0 _ _ _ (by simp at hl;omega)]
  simp[co]
 |cons x xs ih =>
  intro done k hl hk
  simp only[List.length_cons]at hk hl
  obtain⟨k,rfl⟩:∃ k',k=k'+1:=⟨k-1,by omega⟩
  show step (ac step k) _=_
  rw[h _ _ _ _ (by omega),aq _ (by omega)]
  have e:c6 lt x done.reverse xs=c6 lt x done.reverse []++xs:=nh lt x done.reverse [] xs
  have e2:(c6 lt x done.reverse []).length=done.length+1:=by rw[ni];simp
  rw[e,← e2]
  exact ih _ k (by rw[e2];omega) (by omega)
theorem vH {α:Type}(lt:α→α→Bool){step:(List α×Int→Option (SoR α))→List α×Int→Option (SoR α)}(xs:List α)(hn:xs.length≤1048576)
  (h:∀ (rec:List α×Int→Option (SoR α)) (done:List α) (x:α) (r:List α),done.length+1+r.length=xs.length→step rec (done++x::r,(done.length:Int))=rec (c6 lt x done.reverse r,wr .i64 ((done.length:Int)+1)))
  (h0:∀ (rec:List α×Int→Option (SoR α)) (ys:List α) (i:Int),(xs.length:Int)≤i→step rec (ys,i)=some ((),(ys,()))) {k:Nat} (hk:xs.length<k) :
  ac step k (xs,1)=some ((),(co lt [] xs,())):=by
 cases xs with
 |nil =>
  obtain⟨k,rfl⟩:∃ k',k=k'+1:=⟨k-1,by simp at hk;omega⟩
  exact h0 (ac step k) [] 1 (by simp)
 |cons x xs =>
  simp only[List.length_cons]at hk
  have:=rW lt (xs.length+1) (by simpa using hn) h h0 xs [x] k (by simp;omega) (by omega)
  exact this
theorem sE {α:Type}(A B:List α)(x:α):idx (A++x::B) (A.length:Int)=some x:=by
 rw[md];simp
theorem qw {α:Type}(A B:List α)(y x:α):idx (A++y::x::B) ((A.length+1:Nat):Int)=some x:=by
 rw[md];simp[List.getElem?_append_right]
theorem sG {α:Type}(A B:List α)(x v:α):(A++x::B).set A.length v=A++v::B:=by simp
theorem qx {α:Type}(A B:List α)(y x v:α):(A++y::x::B).set (A.length+1) v=A++y::v::B:=by
 simp[List.set_append_right]
end Go.Proofs.YthgnfidnmnkeaaaGreatEv
namespace Go.Proofs.YthgnfidnmnkeaaaGreatEv
open Go
theorem rX {α R:Type}(P:α→Prop)(lt:α→α→Bool)(i:Int)(fin:List α×Int→Option R){step:(List α×Int×Int→Option R)→List α×Int×Int→Option R}
  (h:∀ (rec:List α×Int×Int→Option R) (A:List α) (y x:α) (B:List α),P y→P x→A.length+B.length≤1048576→step rec (A++y::x::B,i,((A.length+1:Nat):Int))=bif lt x y then rec (A++x::y::B,i,(A.length:Int)) else fin (A++y::x::B,wr .i64 (i+1)))
  (h0:∀ (rec:List α×Int×Int→Option R) (ys:List α),step rec (ys,i,0)=fin (ys,wr .i64 (i+1))) :
  ∀ (A B:List α) (x:α) (k:Nat),(∀ y∈A,P y)→P x→A.length+B.length≤1048576→A.length<k→ac step k (A.reverse++x::B,i,(A.length:Int))=fin (c6 lt x A B,wr .i64 (i+1)):=by
 intro A
 induction A with
 |nil =>
  intro B x k hA hx hl hk
  obtain⟨k,rfl⟩:∃ k',k=k'+1:=⟨k-1,by simp at hk;omega⟩
  exact h0 (ac step k) (x::B)
 |cons y A ih =>
  intro B x k hA hx hl hk
  simp only[List.length_cons]at hk hl
  obtain⟨k,rfl⟩:∃ k',k=k'+1:=⟨k-1,by omega⟩
  have h1:=h (ac step k) A.reverse y x B (hA y (by simp)) hx (by simp;omega)
  simp only[List.length_reverse]at h1
  show step (ac step k) _=_
  rw[List.reverse_cons,List.append_assoc]
  simp only[List.length_cons,List.cons_append,List.nil_append,c6]
  rw[h1]
  cases lt x y with
  |true=>exact ih (y::B) x k (fun z hz=>hA z (by simp[hz])) hx (by simp;omega) (by omega)
  |false=>simp
theorem qy {α:Type}(P:α→Prop)(lt:α→α→Bool){step:(List α×Int→Option (SoR α))→List α×Int→Option (SoR α)}(n:Nat)(hn:n≤1048576)
  (h:∀ (rec:List α×Int→Option (SoR α)) (done:List α) (x:α) (xs:List α),(∀ y∈done,P y)→P x→done.length+1+xs.length=n→step rec (done++x::xs,(done.length:Int))=rec (c6 lt x done.reverse xs,wr .i64 ((done.length:Int)+1)))
  (h0:∀ (rec:List α×Int→Option (SoR α)) (ys:List α) (i:Int),(n:Int)≤i→step rec (ys,i)=some ((),(ys,()))) :
  ∀ (xs done:List α) (k:Nat),(∀ y∈done,P y)→(∀ y∈xs,P y)→done.length+xs.length=n→xs.length<k→ac step k (done++xs,(done.length:Int))=some ((),(co lt done xs,())):=by
 intro xs
 induction xs with
 |nil =>
  intro done k hd hx hl hk
  obtain⟨k,rfl⟩:∃ k',k=k'+1:=⟨k-1,by omega⟩
  show step (ac step k) _=_
  rw[h0 _ _ _ (by simp at hl;omega)]
  simp[co]
 |cons x xs ih =>
  intro done k hd hx hl hk
  simp only[List.length_cons]at hk hl
  obtain⟨k,rfl⟩:∃ k',k=k'+1:=⟨k-1,by omega⟩
  show step (ac step k) _=_
  rw[h _ _ _ _ hd (hx x (by simp)) (by omega),aq _ (by omega)]
  have e:c6 lt x done.reverse xs=c6 lt x done.reverse []++xs:=nh lt x done.reverse [] xs
  have e2:(c6 lt x done.reverse []).length=done.length+1:=by rw[ni];simp
  rw[e,← e2]
  refine ih _ k (fun z hz=>?_) (fun z hz=>hx z (by simp[hz])) (by rw[e2];omega) (by omega)
  have h1:=(lr lt x done.reverse []).mem_iff.1 hz
  simp only[List.reverse_reverse,List.append_nil,List.mem_cons]at h1
  rcases h1 with rfl|h1
  ·exact hx z (by simp)
  ·exact hd z h1
theorem ux {α:Type}(P:α→Prop)(lt:α→α→Bool){step:(List α×Int→Option (SoR α))→List α×Int→Option (SoR α)}(xs:List α)(hP:∀ y∈xs,P y)(hn:xs.length≤1048576)
  (h:∀ (rec:List α×Int→Option (SoR α)) (done:List α) (x:α) (r:List α),(∀ y∈done,P y)→P x→done.length+1+r.length=xs.length→step rec (done++x::r,(done.length:Int))=rec (c6 lt x done.reverse r,wr .i64 ((done.length:Int)+1)))
  (h0:∀ (rec:List α×Int→Option (SoR α)) (ys:List α) (i:Int),(xs.length:Int)≤i→step rec (ys,i)=some ((),(ys,()))) {k:Nat} (hk:xs.length<k) :
  ac step k (xs,1)=some ((),(co lt [] xs,())):=by
 cases xs with
 |nil =>
  obtain⟨k,rfl⟩:∃ k',k=k'+1:=⟨k-1,by simp at hk;omega⟩
  exact h0 (ac step k) [] 1 (by simp)
 |cons x xs =>
  simp only[List.length_cons]at hk
  have:=qy P lt (xs.length+1) (by simpa using hn) h h0 xs [x] k (fun y hy=>hP y (by simpa using .inl (by simpa using hy))) (fun y hy=>hP y (by simp[hy])) (by simp;omega) (by omega)
  exact this
def ltZ (a b:Int):Bool:=decide (a<b)
theorem xh (K:Nat)(a b:Int):Q169.f K (a,b,())=some ((ltZ a b,()),()):=by
 simp only[Q169.f,Q119.f,ltZ]
 simp
theorem vI (K:Nat)(xs:List Int)(φ:Int×Int×Unit→Option Int)(lt:Int→Int→Bool)(P:Int→Prop)(hP:∀ y∈xs,P y)(hφ:∀ y z,P y→P z→∃ c,φ (y,z,())=some c∧decide (c<0)=lt y z)(hx:xs.length≤1048576)(hK:1048577<K) :
  Q163.f K (xs,0,(xs.length:Int),φ,())=some ((),(co lt [] xs,())):=by
 refine ux P (step:=fun rec a=>Q163.l0.step K (xs,0,(xs.length:Int),φ,()) (Q163.l1 K (xs,0,(xs.length:Int),φ,()) rec) rec a) lt xs hP hx ?_ ?_ (by omega)
 ·intro rec done x r hd hx0 hl
  simp only[Q163.l0.step]
  rw[decide_eq_true (by omega:((done.length:Int))<(xs.length:Int))]
  simp only[cond_true]
  have:=rX P lt (done.length:Int) rec (step:=fun rec1 a=>Q163.l1.step K (xs,0,(xs.length:Int),φ,()) rec rec1 a) ?_ ?_ done.reverse r x K (fun y hy=>hd y (by simpa using hy)) hx0 (by simp;omega) (by simp;omega)
  ·rw[List.reverse_reverse,List.length_reverse]at this
   exact this
  ·intro rec1 A y z B hy hz hl2
   simp only[Q163.l1.step]
   have e1:wr .i64 (((A.length+1:Nat):Int)-1)=(A.length:Int):=(cM (by omega) (by omega)).trans (by omega)
   rw[decide_eq_true (by omega:((A.length+1:Nat):Int)>0)]
   obtain⟨c,hc,hd⟩:=hφ z y hz hy
   simp only[cond_true,e1,Int.toNat_natCast,qw,sE,Option.bind_some,hc,hd,qx,sG]
  ·intro rec1 ys
   simp only[Q163.l1.step]
   rw[decide_eq_false (by omega:¬ (0:Int)>0)]
   rfl
 ·intro rec ys i hi
  simp only[Q163.l0.step]
  rw[decide_eq_false (by omega:¬ i<(xs.length:Int))]
  rfl
theorem vJ (K:Nat)(xs:List Int)(φ:Int×Int×Unit→Option Int)(lt:Int→Int→Bool)(P:Int→Prop)(hP:∀ y∈xs,P y)(hφ:∀ y z,P y→P z→∃ c,φ (y,z,())=some c∧decide (c<0)=lt y z)(hx:xs.length≤19)(hK:1048577<K) :
  Q165.f K (xs,φ,())=some ((),(co lt [] xs,())):=by
 simp only[Q165.f]
 have:Q164.f K (xs,(xs.length:Int),φ,())=some ((),(co lt [] xs,())):=by
  obtain⟨k,rfl⟩:∃ k',K=k'+1:=⟨K-1,by omega⟩
  show Q164.l0.step _ _ _ _ _=_
  simp only[Q164.l0.step]
  rw[decide_eq_false (by omega:¬ (20:Int)≤(xs.length:Int))]
  simp only[cond_false]
  rw[vI (k+1) xs φ lt P hP hφ (by omega) hK]
  simp only[Option.bind_some]
  have hs:∀ (rec1:Q164.A_l1→Option Q164.Res),Q164.l1.step (k+1) (xs,(xs.length:Int),φ,()) (Q164.l2 (k+1) (xs,(xs.length:Int),φ,()) rec1) rec1 (co lt [] xs,20)=some ((),(co lt [] xs,())):=by
   intro rec1
   simp only[Q164.l1.step]
   rw[decide_eq_false (by omega:¬ (20:Int)<(xs.length:Int))]
   rfl
  exact hs _
 rw[this]
 rfl
theorem vK (K:Nat)(xs:List Int)(hx:xs.length≤1048576)(hK:1048577<K) :
  Q170.f K (xs,0,(xs.length:Int),())=some ((),(co ltZ [] xs,())):=by
 refine vH (step:=fun rec a=>Q170.l0.step K (xs,0,(xs.length:Int),()) (Q170.l1 K (xs,0,(xs.length:Int),()) rec) rec a) ltZ xs hx ?_ ?_ (by omega)
 ·intro rec done x r hl
  simp only[Q170.l0.step]
  rw[decide_eq_true (by omega:((done.length:Int))<(xs.length:Int))]
  simp only[cond_true]
  have:=tv ltZ (done.length:Int) rec (step:=fun rec1 a=>Q170.l1.step K (xs,0,(xs.length:Int),()) rec rec1 a) ?_ ?_ done.reverse r x K (by simp;omega) (by simp;omega)
  ·rw[List.reverse_reverse,List.length_reverse]at this
   exact this
  ·intro rec1 A y z B hl2
   simp only[Q170.l1.step]
   have e1:wr .i64 (((A.length+1:Nat):Int)-1)=(A.length:Int):=(cM (by omega) (by omega)).trans (by omega)
   rw[decide_eq_true (by omega:((A.length+1:Nat):Int)>0)]
   simp only[cond_true,e1,Int.toNat_natCast,qw,sE,Option.bind_some,qx,sG]
   rw[show Q169.f K (z,y,())=_ from xh K z y]
   rfl
  ·intro rec1 ys
   simp only[Q170.l1.step]
   rw[decide_eq_false (by omega:¬ (0:Int)>0)]
   rfl
 ·intro rec ys i hi
  simp only[Q170.l0.step]
  rw[decide_eq_false (by omega:¬ i<(xs.length:Int))]
  rfl
theorem vL (K:Nat)(xs:List Int)(hx:xs.length≤12)(hK:1048577<K) :
  Q176.f K (xs,())=some ((),(co ltZ [] xs,())):=by
 simp only[Q176.f,Q168.f]
 obtain⟨l,hl⟩:∃ l:Int,Q167.f K (wr .u64 (xs.length:Int),())=some ((l,()),()):=by
  have e:wr .u64 (xs.length:Int)=(xs.length:Int):=by
   show IntKind.u64.wrap _=_
   have hw:IntKind.u64.wrap (xs.length:Int)=(xs.length:Int) % 18446744073709551616:=by simp[IntKind.wrap,IntKind.bits,IntKind.signed]
   rw[hw];omega
  rw[e]
  generalize hn:xs.length=n at hx
  have:n=0∨n=1∨n=2∨n=3∨n=4∨n=5∨n=6∨n=7∨n=8∨n=9∨n=10∨n=11∨n=12:=by omega
  rcases this with rfl|rfl|rfl|rfl|rfl|rfl|rfl|rfl|rfl|rfl|rfl|rfl|rfl
  ·exact⟨0,by kernel_rfl⟩
  ·exact⟨1,by kernel_rfl⟩
  ·exact⟨2,by kernel_rfl⟩
  ·exact⟨2,by kernel_rfl⟩
  ·exact⟨3,by kernel_rfl⟩
  ·exact⟨3,by kernel_rfl⟩
  ·exact⟨3,by kernel_rfl⟩
  ·exact⟨3,by kernel_rfl⟩
  ·exact⟨4,by kernel_rfl⟩
  ·exact⟨4,by kernel_rfl⟩
  ·exact⟨4,by kernel_rfl⟩
  ·exact⟨4,by kernel_rfl⟩
  ·exact⟨4,by kernel_rfl⟩
 rw[hl]
 simp only[Option.bind_some]
 have:Q175.f K (xs,0,(xs.length:Int),l,())=some ((),(co ltZ [] xs,())):=by
  obtain⟨k,rfl⟩:∃ k',K=k'+1:=⟨K-1,by omega⟩
  have hs:∀ (rec:Q175.A_l0→Option Q175.Res) (a:Q175.A_l0),Q175.l0.step (k+1) (xs,0,(xs.length:Int),l,()) rec a=some ((),(co ltZ [] xs,())):=by
   intro rec a
   simp only[Q175.l0.step]
   have e:wr .i64 ((xs.length:Int)-0)=(xs.length:Int):=(cM (by omega) (by omega)).trans (by omega)
   rw[e,decide_eq_true (by omega:(xs.length:Int)≤12)]
   simp only[cond_true]
   rw[vK (k+1) xs (by omega) hK]
   rfl
  exact hs (fun _=>none) ()
 rw[this]
 rfl
end Go.Proofs.YthgnfidnmnkeaaaGreatEv
namespace Go.Proofs.YthgnfidnmnkeaaaGreatEv
open Go
def dJ {α:Type}(k:α→Int)(x:α)(xs:List α):List α:=xs.filter (fun y=>decide (k y<k x))++x::xs.filter (fun y=>decide (k x<k y))
theorem pb {α:Type}{k:α→Int}{xs:List α}{v:Int}{m:Nat}(hm:m≤xs.length)(lo:∀ i,(hi:i<xs.length)→i<m→k xs[i]<v)(hi:∀ i,(h:i<xs.length)→m≤i→v≤k xs[i]):xs.filter (fun y=>decide (k y<v))=xs.take m:=by
 conv=>lhs;rw[← List.take_append_drop m xs]
 rw[List.filter_append]
 have h1:(xs.take m).filter (fun y=>decide (k y<v))=xs.take m:=by
  rw[List.filter_eq_self]
  intro y hy
  obtain⟨i,h1,rfl⟩:=List.getElem_of_mem hy
  rw[List.length_take]at h1
  rw[List.getElem_take]
  exact decide_eq_true (lo i (by omega) (by omega))
 have h2:(xs.drop m).filter (fun y=>decide (k y<v))=[]:=by
  rw[List.filter_eq_nil_iff]
  intro y hy
  obtain⟨i,h1,rfl⟩:=List.getElem_of_mem hy
  rw[List.length_drop]at h1
  rw[List.getElem_drop]
  have:=hi (m+i) (by omega) (by omega)
  simp only[decide_eq_true_eq]
  omega
 rw[h1,h2,List.append_nil]
theorem pc {α:Type}{k:α→Int}{xs:List α}{v:Int}{m:Nat}(hm:m≤xs.length)(lo:∀ i,(hi:i<xs.length)→i<m→k xs[i]≤v)(hi:∀ i,(h:i<xs.length)→m≤i→v<k xs[i]):xs.filter (fun y=>decide (v<k y))=xs.drop m:=by
 conv=>lhs;rw[← List.take_append_drop m xs]
 rw[List.filter_append]
 have h1:(xs.take m).filter (fun y=>decide (v<k y))=[]:=by
  rw[List.filter_eq_nil_iff]
  intro y hy
  obtain⟨i,h1,rfl⟩:=List.getElem_of_mem hy
  rw[List.length_take]at h1
  rw[List.getElem_take]
  have:=lo i (by omega) (by omega)
  simp only[decide_eq_true_eq]
  omega
 have h2:(xs.drop m).filter (fun y=>decide (v<k y))=xs.drop m:=by
  rw[List.filter_eq_self]
  intro y hy
  obtain⟨i,h1,rfl⟩:=List.getElem_of_mem hy
  rw[List.length_drop]at h1
  rw[List.getElem_drop]
  exact decide_eq_true (hi (m+i) (by omega) (by omega))
 rw[h1,h2,List.nil_append]
theorem kG {α:Type}{k:α→Int}{xs:List α}{x:α}{m:Nat}(h:Asc k xs)(hm:m<xs.length)(e:k xs[m]=k x):xs.set m x=dJ k x xs:=by
 have hg:=dr.1 h
 have lt:∀ i,(hi:i<xs.length)→i<m→k xs[i]<k x:=fun i hi hlt=>by rw[← e];exact hg i m hi hm hlt
 have gt:∀ i,(hi:i<xs.length)→m<i→k x<k xs[i]:=fun i hi hlt=>by rw[← e];exact hg m i hm hi hlt
 rw[dJ,pb (m:=m) (by omega) lt (fun i hi hmi=>by
   rcases Nat.lt_or_eq_of_le hmi with h1|h1
   ·exact Int.le_of_lt (gt i hi h1)
   ·subst h1;omega),
  pc (m:=m+1) (by omega) (fun i hi hmi=>by
   rcases Nat.lt_or_eq_of_le (Nat.le_of_lt_succ hmi) with h1|h1
   ·exact Int.le_of_lt (lt i hi h1)
   ·subst h1;omega) (fun i hi hmi=>gt i hi hmi),
  List.set_eq_take_append_cons_drop,if_pos hm]
theorem jm {α:Type}{k:α→Int}{xs:List α}{x:α}{m:Nat}(hm:m≤xs.length)(lo:∀ i,(hi:i<xs.length)→i<m→k xs[i]<k x)(hi:∀ i,(h:i<xs.length)→m≤i→k x<k xs[i]):xs.take m++[x]++xs.drop m=dJ k x xs:=by
 rw[dJ,pb hm lo (fun i h1 h2=>Int.le_of_lt (hi i h1 h2)),pc hm (fun i h1 h2=>Int.le_of_lt (lo i h1 h2)) hi,List.append_assoc]
 rfl
theorem jn {α:Type}{k:α→Int}{xs:List α}{x y:α}:y∈dJ k x xs↔y=x∨(y∈xs∧k y≠k x):=by
 simp only[dJ,List.mem_append,List.mem_cons,List.mem_filter,decide_eq_true_eq]
 constructor
 ·rintro (⟨h1,h2⟩|rfl|⟨h1,h2⟩)
  ·exact .inr ⟨h1,by omega⟩
  ·exact .inl rfl
  ·exact .inr ⟨h1,by omega⟩
 ·rintro (rfl|⟨h1,h2⟩)
  ·exact .inr (.inl rfl)
  ·rcases Int.lt_or_gt_of_ne h2 with h3|h3
   ·exact .inl ⟨h1,h3⟩
   ·exact .inr (.inr ⟨h1,h3⟩)
theorem nj {α:Type}{k:α→Int}{xs:List α}{x:α}(h:Asc k xs):Asc k (dJ k x xs):=by
 unfold Asc dJ
 rw[List.pairwise_append,List.pairwise_cons]
 refine⟨h.filter _,⟨fun y hy=>?_,h.filter _⟩,fun y hy z hz=>?_⟩
 ·simpa using (List.mem_filter.1 hy).2
 ·have h1:k y<k x:=by simpa using (List.mem_filter.1 hy).2
  rcases List.mem_cons.1 hz with rfl|hz
  ·exact h1
  ·have h2:k x<k z:=by simpa using (List.mem_filter.1 hz).2
   omega
theorem qz {α:Type}{k:α→Int}{xs:List α}(h:Asc k xs){i:Nat}(hi:i<xs.length){v:Int}(e:k xs[i]=v):xs.find? (fun y=>k y==v)=some xs[i]:=by
 cases h1:xs.find? (fun y=>k y==v) with
 |none =>
  have:=List.find?_eq_none.1 h1 xs[i] (List.getElem_mem hi)
  simp[e]at this
 |some y =>
  have h2:k y=v:=by simpa using List.find?_some h1
  obtain⟨j,hj,rfl⟩:=List.getElem_of_mem (List.mem_of_find?_eq_some h1)
  have:=m8 h hj hi (by rw[h2,e])
  subst this
  rfl
theorem sH {α:Type}{k:α→Int}{xs:List α}{v:Int}(h:∀ y∈xs,k y≠v):xs.find? (fun y=>k y==v)=none:=by
 rw[List.find?_eq_none]
 intro y hy
 simpa using h y hy
def iQ {α:Type}(k:α→Int)(x:α):Bool→List α→List α
 |d,[]=>bif d then [] else [x]
 |d,y::ys=>(bif !d&&decide (k x≤k y) then [x] else [])++((bif k y != k x then [y] else [])++iQ k x (d||decide (k x≤k y)) ys)
theorem nV {α:Type}{k:α→Int}{x:α}:∀ {ys:List α},(∀ y∈ys,k x<k y)→iQ k x true ys=ys
 |[],_=>rfl
 |y::ys,h=>by
  have h1:=h y (by simp)
  simp only[iQ,Bool.not_true,Bool.false_and,cond_false,Bool.true_or,List.nil_append]
  rw[nV (fun z hz=>h z (by simp[hz])),show (k y != k x)=true by simp;omega]
  rfl
theorem jU {α:Type}{k:α→Int}{x:α}:∀ {xs:List α},Asc k xs→iQ k x false xs=dJ k x xs
 |[],_=>rfl
 |y::ys,h=>by
  have h':Asc k ys:=(List.pairwise_cons.1 h).2
  have hy:∀ z∈ys,k y<k z:=(List.pairwise_cons.1 h).1
  simp only[iQ,Bool.not_false,Bool.true_and,Bool.false_or]
  by_cases hk:k x≤k y
  ·rw[decide_eq_true hk,nV (fun z hz=>by have:=hy z hz;omega)]
   simp only[cond_true,dJ,List.filter_cons]
   have e1:ys.filter (fun z=>decide (k z<k x))=[]:=by
    rw[List.filter_eq_nil_iff];intro z hz;have:=hy z hz;simp;omega
   have e2:ys.filter (fun z=>decide (k x<k z))=ys:=by
    rw[List.filter_eq_self];intro z hz;have:=hy z hz;simp;omega
   rw[e1,e2,if_neg (by simp;omega)]
   by_cases he:k y=k x
   ·rw[if_neg (by simp;omega),show (k y != k x)=false by simpa using he];rfl
   ·rw[if_pos (by simp;omega),show (k y != k x)=true by simpa using he];rfl
  ·rw[decide_eq_false hk,jU h',show (k y != k x)=true by simp;omega]
   simp only[cond_false,cond_true,dJ,List.filter_cons,List.nil_append]
   rw[if_pos (by simp;omega),if_neg (by simp;omega)]
   rfl
theorem qA {α A R:Type}(k:α→Int)(x:α)(t:List α)(q:α→Bool)(r0:Option R)(fin:List α→Option R)(S:List α→Bool→Nat→A){step:(A→Option R)→A→Option R}
  (h:∀ (rec:A→Option R) (acc:List α) (d:Bool) (i:Nat) (hi:i<t.length),acc.length≤i+1→(d=false→acc.length≤i)→step rec (S acc d i)=bif q t[i] then r0 else rec (S ((acc++(bif !d&&decide (k x≤k t[i]) then [x] else []))++(bif k t[i] != k x then [t[i]] else [])) (d||decide (k x≤k t[i])) (i+1)))
  (hend:∀ (rec:A→Option R) (acc:List α) (d:Bool),acc.length≤t.length+1→(d=false→acc.length≤t.length)→step rec (S acc d t.length)=fin (acc++(bif d then [] else [x]))) :
  ∀ (n i K:Nat) (acc:List α) (d:Bool),i+n=t.length→n<K→acc.length≤i+1→(d=false→acc.length≤i)→ac step K (S acc d i)=bif (t.drop i).any q then r0 else fin (acc++iQ k x d (t.drop i)):=by
 intro n
 induction n with
 |zero =>
  intro i K acc d hi hK ha hd
  obtain⟨K,rfl⟩:∃ k',K=k'+1:=⟨K-1,by omega⟩
  have:i=t.length:=by omega
  subst this
  show step (ac step K) _=_
  rw[hend _ _ _ ha hd,List.drop_length]
  rfl
 |succ n ih =>
  intro i K acc d hi hK ha hd
  obtain⟨K,rfl⟩:∃ k',K=k'+1:=⟨K-1,by omega⟩
  have hlt:i<t.length:=by omega
  show step (ac step K) _=_
  rw[h _ _ _ _ hlt ha hd,List.drop_eq_getElem_cons hlt,List.any_cons]
  cases hq:q t[i] with
  |true=>rfl
  |false =>
   simp only[cond_false,Bool.false_or,iQ]
   rw[ih (i+1) K _ _ (by omega) (by omega) ?_ ?_]
   ·simp only[List.append_assoc]
   ·cases d with
    |true =>
     simp only[Bool.not_true,Bool.false_and,cond_false,List.append_nil]
     cases k t[i] != k x <;> simp <;> omega
    |false =>
     have:=hd rfl
     cases hc:decide (k x≤k t[i]) <;> cases k t[i] != k x <;> simp <;> omega
   ·intro hdd
    rw[Bool.or_eq_false_iff]at hdd
    obtain⟨rfl,hc⟩:=hdd
    have:=hd rfl
    rw[hc]
    cases k t[i] != k x <;> simp <;> omega
end Go.Proofs.YthgnfidnmnkeaaaGreatEv
namespace Go.Proofs.YthgnfidnmnkeaaaGreatEv
open Go
theorem rY (K:Nat)(n:Node)(hn:NB n)(hK:1048577<K):∃ b,Q81.f K (n,())=rb b∧Q144.f K (n,())=rb b∧(b=true↔mj n):=by
 obtain⟨b,h1,h2⟩:=vF K n hn hK
 obtain⟨b',h3,h4⟩:=vG K n hn hK
 have:b=b':=by rw[Bool.eq_iff_iff,h2,h4]
 subst this
 exact⟨b,h1,h3,h2⟩
theorem mj.up {n:Node}(h:mj n)(hu:n.2.1=true):UpP n:=by
 have:=h.2.2.2.2.2
 rwa [if_pos hu]at this
theorem uy (K:Nat)(n:Node)(hn:NB n)(hK:1048577<K):∃ m:Int,0≤m∧Q54.f K (n,1,())=some ((m,()),((dp n 1).1,())):=by
 refine⟨(dp n 1).2,?_,mC K n hn 1 (by omega) ?_ hK⟩
 ·rw[gh];omega
 ·have:=qu hn;omega
end Go.Proofs.YthgnfidnmnkeaaaGreatEv
namespace Go.Proofs.YthgnfidnmnkeaaaGreatEv
open Go
abbrev bF:=Int×Int×Int×Int×Int×Int×ii×List ao
abbrev bF.table (w:bF):List ao:=w.2.2.2.2.2.2.2
abbrev xF (w:bF):ii:=w.2.2.2.2.2.2.1
theorem rZ (K:Nat)(w:bF)(hw:(bF.table w).length≤1048576)(hK:1048577<K):Q55.f K (w,w,())=rb true:=by
 simp only[Q55.f,bne_self_eq_false,cond_false]
 rw[ji K,jj K _ hw hK]
 rfl
end Go.Proofs.YthgnfidnmnkeaaaGreatEv
namespace Go.Proofs.YthgnfidnmnkeaaaGreatEv
open Go
theorem gz {α A R:Type}(xs:List α)(S:List α→Nat→A)(fin:Option R){step:(A→Option R)→A→Option R}
  (h:∀ (rec:A→Option R) (acc:List α) (i:Nat) (hi:i<xs.length),acc.length=i→step rec (S acc i)=rec (S (acc++[xs[i]]) (i+1))) (hend:∀ rec:A→Option R,step rec (S xs xs.length)=fin) {k:Nat} (hk:xs.length<k):ac step k (S [] 0)=fin:=by
 refine eh (step:=step) xs.length (fun i=>S (xs.take i) i) fin ?_ ?_ hk
 ·intro rec i hi
  show step rec (S (xs.take i) i)=rec (S (xs.take (i+1)) (i+1))
  rw[h rec (xs.take i) i hi (by simp;omega),List.take_succ_eq_append_getElem hi]
 ·intro rec
  show step rec (S (xs.take xs.length) xs.length)=fin
  rw[List.take_length];exact hend rec
theorem szb (a b c:Nat)(hc:c≤64)(h:a+b≤2097152):decide ((a+b)*c≤an)=true:=by
 have:=Nat.mul_le_mul h hc
 exact decide_eq_true (by unfold an;omega)
theorem uz (K:Nat)(n:Node)(hn:NB n)(hK:1048577<K):Q82.f K (n,())=some ((n,()),()):=by
 have b1:=hn.table;have b2:=hn.cast;have b3:=hn.doubts;have b4:=hn.places;have b5:=hn.others
 simp only[Q82.f,Q82.pre]
 rw[szb _ _ _ (by omega) (by show (List.length ([]:List ao))+(Node.table n).length≤_;simp;omega),szb _ _ _ (by omega) (by show (List.length ([]:List aE))+(Node.cast n).length≤_;simp;omega)]
 simp only[cond_true]
 refine gz (Node.doubts n) (step:=fun rec a=>Q82.l0.step K (n,()) (Q82.l1 K (n,())) rec a) (fun acc i=>((i:Int),acc)) _ ?_ ?_ (by omega)
 ·intro rec acc i hi ha
  have:=hn.by_ _ (List.getElem_mem hi)
  simp only[Q82.l0.step]
  rw[bj (by omega:(i:Int)<(List.length (Node.doubts n):Int)),ag hi,aq i (by omega)]
  simp only[cond_true,Option.bind_some]
  rw[szb _ _ _ (by omega) (by simp;omega),szb _ _ _ (by omega) (by simp;omega)]
  rfl
 ·intro rec
  simp only[Q82.l0.step,aI,cond_false]
  refine gz (Node.places n) (step:=fun rec a=>Q82.l1.step K (n,()) (Q82.l2 K (n,())) rec a) (fun acc i=>((i:Int),Node.doubts n,acc)) _ ?_ ?_ (by omega)
  ·intro rec acc i hi ha
   have:=hn.trips _ (List.getElem_mem hi)
   simp only[Q82.l1.step]
   rw[bj (by omega:(i:Int)<(List.length (Node.places n):Int)),ag hi,aq i (by omega)]
   simp only[cond_true,Option.bind_some]
   rw[szb _ _ _ (by omega) (by simp;omega),szb _ _ _ (by omega) (by simp;omega)]
   rfl
  ·intro rec
   simp only[Q82.l1.step,aI,cond_false]
   refine gz (Node.others n) (step:=fun rec a=>Q82.l2.step K (n,()) rec a) (fun acc i=>((i:Int),Node.doubts n,Node.places n,acc)) _ ?_ ?_ (by omega)
   ·intro rec acc i hi ha
    have:=hn.facts _ (List.getElem_mem hi)
    simp only[Q82.l2.step]
    rw[bj (by omega:(i:Int)<(List.length (Node.others n):Int)),ag hi,aq i (by omega)]
    simp only[cond_true,Option.bind_some]
    rw[szb _ _ _ (by omega) (by simp;omega),szb _ _ _ (by omega) (by simp;omega)]
    rfl
   ·intro rec
    simp only[Q82.l2.step,aI,cond_false]
    rfl
theorem vM (K:Nat)(n:Node)(hn:NB n)(hK:1048577<K):Q192.f K (n,())=some ((n,()),()):=by
 have b1:=hn.table;have b2:=hn.cast;have b3:=hn.doubts;have b4:=hn.places;have b5:=hn.others
 simp only[Q192.f,Q192.pre]
 refine gz (Node.doubts n) (step:=fun rec a=>Q192.l0.step K (n,()) (Q192.l1 K (n,())) rec a) (fun acc i=>(acc,(i:Int))) _ ?_ ?_ (by omega)
 ·intro rec acc i hi ha
  have:=hn.by_ _ (List.getElem_mem hi)
  simp only[Q192.l0.step,Q8.f]
  rw[bj (by omega:(i:Int)<(List.length (Node.doubts n):Int)),ag hi,aq i (by omega)]
  simp only[cond_true,Option.bind_some]
  rw[dx (by omega)]
  simp only[Option.bind_some]
  rw[szb _ _ _ (by omega) (by simp;omega)]
  rfl
 ·intro rec
  simp only[Q192.l0.step,aI,cond_false]
  refine gz (Node.places n) (step:=fun rec a=>Q192.l1.step K (n,()) (Q192.l2 K (n,())) rec a) (fun acc i=>(Node.doubts n,acc,(i:Int))) _ ?_ ?_ (by omega)
  ·intro rec acc i hi ha
   have:=hn.trips _ (List.getElem_mem hi)
   simp only[Q192.l1.step,Q8.f]
   rw[bj (by omega:(i:Int)<(List.length (Node.places n):Int)),ag hi,aq i (by omega)]
   simp only[cond_true,Option.bind_some]
   rw[dx (by omega)]
   simp only[Option.bind_some]
   rw[szb _ _ _ (by omega) (by simp;omega)]
   rfl
  ·intro rec
   simp only[Q192.l1.step,aI,cond_false]
   refine gz (Node.others n) (step:=fun rec a=>Q192.l2.step K (n,()) rec a) (fun acc i=>(Node.doubts n,Node.places n,acc,(i:Int))) _ ?_ ?_ (by omega)
   ·intro rec acc i hi ha
    have:=hn.facts _ (List.getElem_mem hi)
    simp only[Q192.l2.step,Q0.f]
    rw[bj (by omega:(i:Int)<(List.length (Node.others n):Int)),ag hi,aq i (by omega)]
    simp only[cond_true,Option.bind_some]
    rw[dx (by omega)]
    simp only[Option.bind_some]
    rw[szb _ _ _ (by omega) (by simp;omega)]
    rfl
   ·intro rec
    simp only[Q192.l2.step,aI,cond_false,Q0.f,Q2.f]
    rw[dx (by show (Node.table n).length*_≤_;omega),dx (by show (Node.cast n).length*_≤_;omega)]
    rfl
def eu (w:bF)(m:Int):bF×Int :=
 ((m,m+1,m+1+1,m+1+1+1,m+1+1+1+1,m+1+1+1+1+1,(m+1+1+1+1+1+1,m+1+1+1+1+1+1+1,m+1+1+1+1+1+1+1+1,m+1+1+1+1+1+1+1+1+1),
  (mks bS (bF.table w) (m+1+1+1+1+1+1+1+1+1+1)).1),(mks bS (bF.table w) (m+1+1+1+1+1+1+1+1+1+1)).2)
def im (w:bF):Nat:=10+((bF.table w).map eV).sum
theorem nk (x:bF)(m:Int):(eu x m).2=m+im x:=by simp only[eu,im,au ba];omega
theorem qB (K:Nat)(xs:List bF)(m:Int)(hx:xs.length≤1048576)(hb:∀ y∈xs,(bF.table y).length≤1048576)(h0:0≤m)(hm:m+((xs.map im).sum:Nat)≤4611686018427387904)(hK:1048577<K) :
  Q57.f K (xs,m,())=some (((mks eu xs m).2,()),((mks eu xs m).1,())):=by
 refine fw (step:=fun rec a=>Q57.l0.step K (xs,m,()) rec a) eu im (fun y=>(bF.table y).length≤1048576) nk ?_ ?_ xs [] m K (by simpa using hx) (by omega) hb h0 hm
 ·intro rec ys m i hi hl hb h0 hm
  simp only[im]at hm
  simp only[Q57.l0.step]
  rw[bj (by omega:(i:Int)<(List.length ys:Int)),ag hi,aq i (by omega)]
  simp (disch:=omega) only [wrp,cond_true,Option.bind_some,Int.toNat_natCast,List.set_set,i9 hi,ag hi]
  rw[jk K _ _ hb (by omega) (by omega) hK]
  rfl
 ·intro rec ys m
  simp only[Q57.l0.step,aI]
  rfl
theorem qC (K:Nat)(xs:List bF)(m:Int)(hx:xs.length≤1048576)(hb:∀ y∈xs,(bF.table y).length≤1048576)(h0:0≤m)(hm:m+((xs.map im).sum:Nat)≤4611686018427387904)(hK:1048577<K) :
  Q65.f K ((mks eu xs m).1,m,())=some (((mks eu xs m).2,()),()):=by
 refine fy (step:=fun rec a=>Q65.l0.step K ((mks eu xs m).1,m,()) rec a) eu im (fun y=>(bF.table y).length≤1048576) nk (mks eu xs m).1 (by rw[bk];exact hx) ?_ ?_ xs [] m K rfl (by omega) hb h0 hm
 ·intro rec x m' i hi e hb h0 hm
  simp only[im]at hm
  rw[bk]at hi
  simp only[Q65.l0.step]
  rw[bj (by rw[bk];omega:(i:Int)<(List.length (mks eu xs m).1:Int)),ag (by rw[bk];exact hi),aq i (by omega),e]
  simp (disch:=omega) only [wrp,cond_true,Option.bind_some,eu,bne_self_eq_false,cond_false]
  rw[jl K _ _ hb (by omega) (by omega) hK]
  simp only[Option.bind_some]
  rw[gV (a:=(mks bS _ _).2) (by rw[au ba];omega)]
  rfl
 ·intro rec m'
  simp only[Q65.l0.step,aI]
  rfl
theorem qD (K:Nat)(xs:List bF)(hx:xs.length≤1048576)(hb:∀ y∈xs,(bF.table y).length≤1048576)(hK:1048577<K):Q56.f K (xs,xs,())=rb true:=by
 simp only[Q56.f,Q56.pre,bne_self_eq_false,cond_false]
 refine eh (step:=fun rec a=>Q56.l0.step K (xs,xs,()) rec a) xs.length (fun i=>(i:Int)) (rb true) ?_ ?_ (by omega)
 ·intro rec i hi
  simp only[Q56.l0.step]
  rw[bj (by omega:(i:Int)<(List.length xs:Int)),ag hi,aq i (by omega)]
  simp only[cond_true,Option.bind_some]
  rw[rZ K _ (hb _ (List.getElem_mem hi)) hK]
  rfl
 ·intro rec
  simp only[Q56.l0.step,aI]
  rfl
theorem uA (K:Nat)(y:Node)(ws:List bF)(hy:NB y)(hw:ws.length≤1048576)(hb:∀ w∈ws,(bF.table w).length≤1048576)(hK:1048577<K):∃ m m':Int,∃ ws':List bF,0≤m∧0≤m' ∧
  Q54.f K (y,1,())=some ((m,()),((dp y 1).1,()))∧Q57.f K (ws,m,())=some ((m',()),(ws',()))∧Q47.f K (y,y,())=rb true∧Q56.f K (ws,ws,())=rb true ∧
  Q64.f K ((y.1,(y.2.1,(y.2.2.1,(y.2.2.2.1,(y.2.2.2.2.1,(y.2.2.2.2.2.1,(y.2.2.2.2.2.2.1,(y.2.2.2.2.2.2.2.1,((dp y 1).1.2.2.2.2.2.2.2.2.1,((dp y 1).1.2.2.2.2.2.2.2.2.2.1,(y.2.2.2.2.2.2.2.2.2.2.1,((dp y 1).1.2.2.2.2.2.2.2.2.2.2.2.1,(y.2.2.2.2.2.2.2.2.2.2.2.2.1,(dp y 1).1.2.2.2.2.2.2.2.2.2.2.2.2.2))))))))))))),1,())=some ((m,()),()) ∧
  Q65.f K (ws',m,())=some ((m',()),()):=by
 have h1:=qu hy
 have h2:(ws.map im).sum≤1048576*4194314:=Nat.le_trans (ki (c:=4194314) (fun x hx=>by
  have h3:=ki (W:=eV) (c:=4) (xs:=bF.table x) (fun _ _=>Nat.le_refl _)
  have:=hb x hx
  simp only[im]
  omega)) (Nat.mul_le_mul hw (Nat.le_refl _))
 refine⟨(dp y 1).2,(mks eu ws (dp y 1).2).2,(mks eu ws (dp y 1).2).1,by rw[gh];omega,by rw[au nk,gh];omega,mC K y hy 1 (by omega) (by omega) hK,
  qB K ws _ hw hb (by rw[gh];omega) (by rw[gh];omega) hK,mA K y hy hK,qD K ws hw hb hK,rV K y hy 1 (by omega) (by omega) hK,qC K ws _ hw hb (by rw[gh];omega) (by rw[gh];omega) hK⟩
end Go.Proofs.YthgnfidnmnkeaaaGreatEv
namespace Go.Proofs.YthgnfidnmnkeaaaGreatEv
open Go
instance (f g:ao):Decidable (de f g):=by unfold de;infer_instance
theorem qE (K:Nat)(f g:ao):Q73.f K (f,g,())=rb (decide (de f g)):=by
 obtain⟨b,h1,h2⟩:=ul K f g
 rw[h1,show b=decide (de f g) by rw[Bool.eq_iff_iff,h2];simp]
def cI (t:List ao)(f:ao):List ao×Bool :=
 match t.find? (fun g=>g.1==f.1) with
 |some g=>if de f g then (dJ (fun g=>g.1) f t,true) else (t,false)
 |none=>(dJ (fun g=>g.1) f t,true)
theorem nl {t:List ao}{f:ao}(hA:Asc (fun g:ao=>g.1) t){i:Nat}(hi:i<t.length)(e:t[i].1=f.1):cI t f=if de f t[i] then (dJ (fun g=>g.1) f t,true) else (t,false):=by
 unfold cI
 rw[show t.find? (fun g=>g.1==f.1)=some t[i] from qz hA hi e]
theorem nm {t:List ao}{f:ao}(h:∀ g∈t,g.1≠f.1):cI t f=(dJ (fun g=>g.1) f t,true):=by
 unfold cI
 rw[show t.find? (fun g=>g.1==f.1)=none from sH h]
theorem lv {e:Ty}{b:Nat}{xs:List e.den}{m:Nat}{v:e.den}(hm:m≤xs.length)(hb:b≤64)(hx:xs.length≤1048576):gw e b xs (m:Int) [v]=some ((xs.take m++[v]++xs.drop m,()),()):=by
 unfold gw
 have:(xs.length+[v].length)*b≤140737488355328:=Nat.le_trans (Nat.mul_le_mul (show xs.length+[v].length≤1048577 by simp;omega) hb) (by decide)
 rw[if_pos ⟨by omega,by omega,by simp,by simpa only[an]using this⟩,Int.toNat_natCast]
theorem pd {e:Ty}{xs:List e.den}{φ:e.den×Unit→Option Bool}(p:e.den→Bool)(hx:xs.length≤1048576)(h:∀ x∈xs,φ (x,())=some (p x)):fP e xs φ=some ((xs.filter (fun x=>!p x),()),()):=by
 have:∀ ys:List e.den,(∀ x∈ys,φ (x,())=some (p x))→kA φ ys=some (ys.filter (fun x=>!p x)):=by
  intro ys
  induction ys with
  |nil=>intro _;rfl
  |cons y ys ih =>
   intro h
   simp only[kA,h y (by simp),Option.bind_some,ih (fun x hx=>h x (by simp[hx])),Option.map_some,List.filter_cons]
   cases p y <;> rfl
 unfold fP
 rw[if_pos hx,this xs h]
 rfl
theorem put_s (K:Nat)(t:List ao)(f:ao)(ht:t.length≤1048576)(hA:Asc (fun g:ao=>g.1) t)(hK:1048577<K):Q83.f K (t,f,())=some (((cI t f).1,(cI t f).2,()),()):=by
 simp only[Q83.f,Q83.pre]
 obtain⟨o,ho,h1⟩:=e8 K t f.1 ht hK
 rw[h1]
 simp only[Option.bind_some]
 cases ho with
 |at_ i hi e =>
  simp only
  rw[nl hA hi e,decide_eq_true (by omega:((i:Nat):Int)≥0),ag hi]
  simp only[cond_true,Option.bind_some]
  rw[show Q73.f K (f,t[i],())=_ from qE K f t[i]]
  simp only[Option.bind_some]
  by_cases ho:de f t[i]
  ·rw[decide_eq_true ho,if_pos ho]
   simp only[Bool.not_true,cond_false]
   rw[szb _ _ _ (by omega) (by show (List.length ([]:List ao))+t.length≤_;simp;omega)]
   simp only[cond_true,List.nil_append,ag hi,Option.bind_some,Int.toNat_natCast]
   rw[kG (k:=fun g:ao=>g.1) hA hi e]
  ·rw[decide_eq_false ho,if_neg ho]
   rfl
 |no h =>
  simp only
  rw[nm h,decide_eq_false (by omega:¬ (-1:Int)≥0)]
  simp only[cond_false]
  have fit:∀ m:Nat,m≤t.length→(bif decide ((0:Int)≤0)&&decide ((0:Int)≤(m:Int))&&decide ((m:Int)≤(List.length t:Int))&&true then (bif decide ((List.length ([]:List ao)+List.length ((t.take (Int.toNat (m:Int))).drop (Int.toNat 0)))*32≤an) then (bif decide ((List.length ([]++((t.take (Int.toNat (m:Int))).drop (Int.toNat 0)))+List.length ([f]))*32≤an) then (bif decide ((0:Int)≤(m:Int))&&decide ((m:Int)≤(List.length t:Int))&&decide ((List.length t:Int)≤(List.length t:Int))&&true then (bif decide ((List.length (([]++((t.take (Int.toNat (m:Int))).drop (Int.toNat 0)))++([f]))+List.length ((t.take (Int.toNat (List.length t:Int))).drop (Int.toNat (m:Int))))*32≤an) then (some (((([]++((t.take (Int.toNat (m:Int))).drop (Int.toNat 0)))++([f]))++((t.take (Int.toNat (List.length t:Int))).drop (Int.toNat (m:Int))),true,()),())) else none) else none) else none) else none) else (none:Option ((List ao×Bool×Unit)×Unit)))=some ((t.take m++[f]++t.drop m,true,()),()):=by
   intro m hm
   rw[decide_eq_true (by omega:(0:Int)≤0),decide_eq_true (by omega:(0:Int)≤(m:Int)),decide_eq_true (by omega:(m:Int)≤(List.length t:Int)),decide_eq_true (by omega:(List.length t:Int)≤(List.length t:Int))]
   simp only[Int.toNat_natCast,Int.toNat_zero,List.drop_zero,List.nil_append,List.take_length,Bool.and_self,cond_true]
   have h1:(t.take m).length=m:=by rw[List.length_take];omega
   have h2:(t.drop m).length=t.length-m:=List.length_drop
   rw[szb _ _ _ (by omega) (by simp only[List.length_nil];omega),szb _ _ _ (by omega) (by simp only[List.length_cons,List.length_nil];omega),szb _ _ _ (by omega) (by simp only[List.length_append,List.length_cons,List.length_nil];omega)]
   rfl
  have:=cr (step:=fun rec a=>Q83.l0.step K (t,f,()) rec a) t.length (fun i=>(i:Int)) (fun j=>∃ h:j<t.length,¬ t[j].1<f.1) (some ((t.take t.length++[f]++t.drop t.length,true,()),())) (fun j=>some ((t.take j++[f]++t.drop j,true,()),())) ?_ ?_ t.length K 0 (by omega) (by omega)
  ·have fin:∀ m,m≤t.length→(∀ i,(hi:i<t.length)→i<m→t[i].1<f.1)→(∀ i,(hi:i<t.length)→m≤i→f.1<t[i].1)→t.take m++[f]++t.drop m=dJ (fun g=>g.1) f t:=fun m hm lo hi=>jm (k:=fun g:ao=>g.1) hm lo hi
   rcases this with ⟨h1,h2⟩|⟨j,_,h1,⟨h3,h4⟩,h5,h2⟩
   ·rw[fin t.length (Nat.le_refl _) (fun i hi _=>by
     have:=h1 i (Nat.zero_le _) hi
     exact Classical.not_not.1 fun h=>this ⟨hi,h⟩) (fun i hi h=>by omega)]at h2
    exact h2
   ·rw[fin j (by omega) (fun i hi hij=>by
     have:=h5 i (Nat.zero_le _) hij
     exact Classical.not_not.1 fun h=>this ⟨hi,h⟩) (fun i hi hij=>by
     have hne:=h t[i] (List.getElem_mem hi)
     rcases Nat.lt_or_eq_of_le hij with h6|h6
     ·have:=dr.1 hA j i h3 hi h6
      omega
     ·subst h6;omega)]at h2
    exact h2
  ·intro rec i hi
   simp only[Q83.l0.step]
   rw[bj (by omega:(i:Int)<(List.length t:Int)),ag hi,aq i (by omega)]
   simp only[cond_true,Option.bind_some]
   by_cases hlt:t[i].1<f.1
   ·exact .inl ⟨fun⟨_,h⟩=>h hlt,by rw[decide_eq_true hlt];rfl⟩
   ·exact .inr ⟨⟨hi,hlt⟩,by rw[decide_eq_false hlt];exact fit i (by omega)⟩
  ·intro rec
   simp only[Q83.l0.step,aI,cond_false]
   exact fit t.length (Nat.le_refl _)
theorem wq (K:Nat)(t:List ao)(f:ao)(ht:t.length≤1048576)(hA:Asc (fun g:ao=>g.1) t)(hK:1048577<K):Q146.f K (t,f,())=some (((cI t f).1,(cI t f).2,()),()):=by
 simp only[Q146.f,Q0.f,Q1.f]
 rw[dx (by omega)]
 simp only[Option.bind_some]
 obtain⟨m,hm,h1⟩:=qj K t f.1 ht hA hK
 rw[h1]
 simp only[Option.bind_some]
 by_cases he:∃ h:m<t.length,t[m].1=f.1
 ·obtain⟨h2,h3⟩:=he
  rw[decide_eq_true ⟨h2,h3⟩,nl hA h2 h3]
  simp only[Bool.not_true,cond_false,ag h2,Option.bind_some,Int.toNat_natCast]
  rw[lp K f t[m] hK]
  simp only[Option.bind_some]
  by_cases ho:de f t[m]
  ·rw[decide_eq_true ((iw h3.symm).2 ho),if_pos ho,kG (k:=fun g:ao=>g.1) hA h2 h3]
   rfl
  ·rw[decide_eq_false (fun h=>ho ((iw h3.symm).1 h)),if_neg ho]
   rfl
 ·rw[decide_eq_false he,nm (fun g hg e=>by
   obtain⟨i,hi,rfl⟩:=List.getElem_of_mem hg
   rcases Nat.lt_trichotomy i m with h|h|h
   ·have:=hm.lo i hi h;omega
   ·subst h;exact he ⟨hi,e⟩
   ·have h5:=hm.hi m (by omega) (Nat.le_refl _)
    have h6:=dr.1 hA m i (by omega) hi h
    omega)]
  simp only[Bool.not_false,cond_true]
  rw[lv hm.le (by omega) ht]
  simp only[Option.bind_some]
  rw[jm (k:=fun g:ao=>g.1) hm.le hm.lo (fun i hi hmi=>by
   have:=hm.hi i hi hmi
   rcases Nat.lt_or_eq_of_le hmi with h6|h6
   ·have h5:=hm.hi m (by omega) (Nat.le_refl _)
    have h7:=dr.1 hA m i (by omega) hi h6
    omega
   ·subst h6
    have:t[m].1≠f.1:=fun e=>he ⟨hi,e⟩
    omega)]
def dP (l:List aE)(f:ao):List aE:=if ∃ x∈l,x.1.1=f.1∧¬ de f x.1 then l else dJ (fun x=>x.1.1) (f,4) l
theorem r8 {l:List aE}{f:ao}:dP l f=bif l.any (fun x=>x.1.1==f.1&&!decide (de f x.1)) then l else dJ (fun x=>x.1.1) (f,4) l:=by
 unfold dP
 have:(∃ x∈l,x.1.1=f.1∧¬ de f x.1)↔l.any (fun x=>x.1.1==f.1&&!decide (de f x.1))=true:=by
  rw[List.any_eq_true]
  simp
 by_cases h:∃ x∈l,x.1.1=f.1∧¬ de f x.1
 ·rw[if_pos h,this.1 h];rfl
 ·rw[if_neg h,show l.any (fun x=>x.1.1==f.1&&!decide (de f x.1))=false by rw[Bool.eq_false_iff];exact fun hh=>h (this.2 hh)];rfl
theorem wI (K:Nat)(l:List aE)(f:ao)(hl:l.length≤1048576)(hA:Asc (fun x:aE=>x.1.1) l)(hK:1048577<K):Q84.f K (l,f,())=some ((dP l f,()),()):=by
 have:=qA (step:=fun rec a=>Q84.l0.step K (l,f,()) rec a) (fun x:aE=>x.1.1) (f,4) l (fun x=>x.1.1==f.1&&!decide (de f x.1)) (some ((l,()),())) (fun xs=>some ((xs,()),())) (fun acc d i=>(acc,d,(i:Int))) ?_ ?_ l.length 0 K [] false (by omega) (by omega) (by simp) (by simp)
 ·refine Eq.trans (this:Q84.f K (l,f,())=_) ?_
  rw[List.drop_zero,r8,jU hA]
  cases l.any (fun x=>x.1.1==f.1&&!decide (de f x.1)) <;> rfl
 ·intro rec acc d i hi ha hd
  simp only[Q84.l0.step]
  rw[bj (by omega:(i:Int)<(List.length l:Int)),ag hi,aq i (by omega)]
  simp only[cond_true,Option.bind_some]
  have z1:decide ((acc.length+[((f,4):ao×Nat)].length)*40≤an)=true:=szb _ _ _ (by omega) (by simp;omega)
  have z2:decide (((acc++[((f,4):aE)]).length+[l[i]].length)*40≤an)=true:=szb _ _ _ (by omega) (by simp;omega)
  have z3:decide ((acc.length+[l[i]].length)*40≤an)=true:=szb _ _ _ (by omega) (by simp;omega)
  by_cases he:l[i].1.1=f.1
  ·rw[show (l[i].1.1==f.1)=true by simpa using he,show (l[i].1.1 != f.1)=false by simpa using he,show decide (f.1≤l[i].1.1)=true from decide_eq_true (by omega)]
   simp only[cond_true,cond_false,Bool.true_and,Bool.and_true,Bool.or_true,List.append_nil]
   rw[show Q73.f K (f,l[i].1,())=_ from qE K f l[i].1]
   simp only[Option.bind_some]
   cases decide (de f l[i].1) with
   |false=>rfl
   |true =>
    simp only[Bool.not_true,cond_false]
    cases d with
    |true=>simp only[Bool.not_true,cond_false,List.append_nil]
    |false =>
     simp only[Bool.not_false,cond_true]
     rw[z1]
     rfl
  ·rw[show (l[i].1.1==f.1)=false by simpa using he,show (l[i].1.1 != f.1)=true by simpa using he]
   simp only[cond_true,cond_false,Bool.false_and]
   cases d with
   |true =>
    simp only[Bool.not_true,cond_false,Bool.false_and,List.append_nil,Bool.true_or]
    rw[z3]
    rfl
   |false =>
    simp only[Bool.not_false,cond_true,Bool.true_and,Bool.false_or]
    cases decide (f.1≤l[i].1.1) with
    |true =>
     simp only[cond_true]
     rw[z1]
     simp only[cond_true]
     rw[z2]
     rfl
    |false =>
     simp only[cond_false,List.append_nil]
     rw[z3]
     rfl
 ·intro rec acc d ha hd
  simp only[Q84.l0.step,aI]
  cases d with
  |true=>simp only[Bool.not_true,cond_false,cond_true,List.append_nil]
  |false =>
   have:=hd rfl
   have z1:decide ((acc.length+[((f,4):ao×Nat)].length)*40≤an)=true:=szb _ _ _ (by omega) (by simp;omega)
   simp only[Bool.not_false,cond_true,cond_false]
   rw[z1]
   rfl
theorem uB (K:Nat)(l:List aE)(f:ao)(hl:l.length≤1048576)(hC:cH l)(hf:cP f)(hK:1048577<K):Q147.f K (l,f,())=some ((dP l f,()),()):=by
 simp only[Q147.f,Q2.f,Q3.f]
 obtain⟨b1,e1,e2⟩:=ne K l hl hK
 have hb1:=e2.2 hC
 subst hb1
 obtain⟨b2,e3,e4⟩:=kE K f
 have hb2:=e4.2 hf
 subst hb2
 rw[e1]
 simp only[Option.bind_some,Bool.not_true,cond_false]
 rw[e3]
 simp only[Option.bind_some,Bool.not_true,cond_false]
 rw[dx (by omega)]
 simp only[Option.bind_some]
 rw[sA K l hl hK]
 simp only[Option.bind_some]
 have hA:Asc (fun g:ao=>g.1) (l.map (·.1)):=by
  have:=hC.2
  unfold Asc at this ⊢
  rw[List.pairwise_map]
  exact this
 have hml:(l.map (·.1)).length=l.length:=List.length_map _
 obtain⟨m,hm,h1⟩:=qj K (l.map (·.1)) f.1 (by rw[hml];exact hl) hA hK
 rw[h1]
 simp only[Option.bind_some]
 have hget:∀ i (h:i<l.length),(l.map (·.1))[i]'(by rw[hml];exact h)=l[i].1:=fun i h=>List.getElem_map _
 have hle:=hm.le
 rw[hml]at hle
 have lo:∀ i,(hi:i<l.length)→i<m→l[i].1.1<f.1:=fun i hi him=>by have:=hm.lo i (by rw[hml];exact hi) him;rwa [hget i hi]at this
 have hi':∀ i,(hi:i<l.length)→m≤i→f.1≤l[i].1.1:=fun i hi him=>by have:=hm.hi i (by rw[hml];exact hi) him;rwa [hget i hi]at this
 by_cases he:∃ h:m<l.length,l[m].1.1=f.1
 ·obtain⟨h2,h3⟩:=he
  rw[decide_eq_true ⟨by rw[hml];exact h2,by rw[hget m h2];exact h3⟩]
  simp only[Bool.not_true,cond_false,ag h2,Option.bind_some,Int.toNat_natCast]
  rw[show Q130.f K (f,l[m].1,())=_ from lp K f l[m].1 hK]
  simp only[Option.bind_some]
  have huq:∀ x∈l,x.1.1=f.1→x=l[m]:=fun x hx e=>by
   obtain⟨i,hi,rfl⟩:=List.getElem_of_mem hx
   have:=m8 hC.2 hi h2 (by show l[i].1.1=l[m].1.1;rw[e,h3])
   subst this
   rfl
  by_cases ho:de f l[m].1
  ·rw[decide_eq_true ((iw h3.symm).2 ho),dP,if_neg (fun⟨x,hx,e,hn⟩=>hn (by rw[huq x hx e];exact ho)),kG (k:=fun x:aE=>x.1.1) (x:=(f,4)) hC.2 h2 h3]
   rfl
  ·rw[decide_eq_false (fun h=>ho ((iw h3.symm).1 h)),dP,if_pos ⟨l[m],List.getElem_mem h2,h3,ho⟩]
   rfl
 ·have hne:∀ x∈l,x.1.1≠f.1:=fun x hx e=>by
   obtain⟨i,hi,rfl⟩:=List.getElem_of_mem hx
   rcases Nat.lt_trichotomy i m with h|h|h
   ·have:=lo i hi h;omega
   ·subst h;exact he ⟨hi,e⟩
   ·have h5:=hi' m (by omega) (Nat.le_refl _)
    have h6:l[m].1.1<l[i].1.1:=dr.1 hC.2 m i (by omega) hi h
    omega
  rw[decide_eq_false (fun⟨h2,h3⟩=>he ⟨by rw[hml]at h2;exact h2,by rw[hget m (by rw[hml]at h2;exact h2)]at h3;exact h3⟩),dP,if_neg (fun⟨x,hx,e,_⟩=>hne x hx e)]
  simp only[Bool.not_false,cond_true]
  rw[lv hle (by omega) hl]
  simp only[Option.bind_some]
  rw[jm (k:=fun x:aE=>x.1.1) (x:=(f,4)) hle lo (fun i hi hmi=>by
   have h1:=hi' i hi hmi
   have h2:=hne l[i] (List.getElem_mem hi)
   show f.1<l[i].1.1
   omega)]
theorem mF {α:Type}{k:α→Int}{x:α}:∀ {ys:List α},iQ k x true ys=ys.filter (fun y=>k y != k x)
 |[]=>rfl
 |y::ys=>by
  simp only[iQ,Bool.not_true,Bool.false_and,cond_false,Bool.true_or,List.nil_append,List.filter_cons]
  rw[mF]
  cases k y != k x <;> rfl
theorem r9 {α:Type}{k:α→Int}{x:α}{xs:List α}:dJ k x (xs.filter fun y=>!(k y==k x))=dJ k x xs:=by
 simp only[dJ,List.filter_filter]
 congr 1
 ·refine List.filter_congr fun y _=>?_
  by_cases h:k y<k x
  ·rw[decide_eq_true h];simp;omega
  ·rw[decide_eq_false h];rfl
 ·congr 1
  refine List.filter_congr fun y _=>?_
  by_cases h:k x<k y
  ·rw[decide_eq_true h];simp;omega
  ·rw[decide_eq_false h];rfl
def mkD (now:Int)(f:ao)(b:Int):bi:=(f.1,f.2.1,now,[b])
def eC (now:Int)(ds:List bi)(f:ao)(b:Int):List bi:=if f.2.2.1=2 then dJ (fun d=>d.1) (mkD now f b) ds else ds.filter (fun d=>!(d.1==f.1))
theorem wJ (K:Nat)(n:Node)(f:ao)(b:Int)(hl:(Node.doubts n).length≤1048576)(hA:Asc (fun d:bi=>d.1) (Node.doubts n))(hK:1048577<K) :
  Q85.f K (n,f,b,())=some ((eC n.2.2.2.2.2.1 (Node.doubts n) f b,()),()):=by
 have:=qA (step:=fun rec a=>Q85.l0.step K (n,f,b,()) rec a) (fun d:bi=>d.1) (mkD n.2.2.2.2.2.1 f b) (Node.doubts n) (fun _=>false) none (fun xs=>some ((xs,()),())) (fun acc d i=>(acc,d,(i:Int))) ?_ ?_ (Node.doubts n).length 0 K [] (f.2.2.1 != 2) (by omega) (by omega) (by simp) (by simp)
 ·refine Eq.trans (this:Q85.f K (n,f,b,())=_) ?_
  rw[List.drop_zero,show (Node.doubts n).any (fun _=>false)=false by simp,eC]
  by_cases h2:f.2.2.1=2
  ·rw[if_pos h2,show (f.2.2.1 != 2)=false by simpa using h2,jU hA]
   rfl
  ·rw[if_neg h2,show (f.2.2.1 != 2)=true by simpa using h2,mF]
   rfl
 ·intro rec acc d i hi ha hd
  simp only[Q85.l0.step]
  rw[bj (by omega:(i:Int)<(List.length (Node.doubts n):Int)),ag hi,aq i (by omega)]
  simp only[cond_true,cond_false,Option.bind_some]
  have z1:decide ((acc.length+[mkD n.2.2.2.2.2.1 f b].length)*48≤an)=true:=szb _ _ _ (by omega) (by simp;omega)
  have z2:decide (((acc++[mkD n.2.2.2.2.2.1 f b]).length+[(Node.doubts n)[i]].length)*48≤an)=true:=szb _ _ _ (by omega) (by simp;omega)
  have z3:decide ((acc.length+[(Node.doubts n)[i]].length)*48≤an)=true:=szb _ _ _ (by omega) (by simp;omega)
  show (bif !d then (bif decide (f.1≤(Node.doubts n)[i].1) then (bif decide ((acc.length+[mkD n.2.2.2.2.2.1 f b].length)*48≤an) then (bif (Node.doubts n)[i].1 != f.1 then (bif decide (((acc++[mkD n.2.2.2.2.2.1 f b]).length+[(Node.doubts n)[i]].length)*48≤an) then (rec ((acc++[mkD n.2.2.2.2.2.1 f b])++[(Node.doubts n)[i]],true,((i+1:Nat):Int))) else none) else (rec (acc++[mkD n.2.2.2.2.2.1 f b],true,((i+1:Nat):Int)))) else none) else (bif (Node.doubts n)[i].1 != f.1 then (bif decide ((acc.length+[(Node.doubts n)[i]].length)*48≤an) then (rec (acc++[(Node.doubts n)[i]],d,((i+1:Nat):Int))) else none) else (rec (acc,d,((i+1:Nat):Int))))) else (bif (Node.doubts n)[i].1 != f.1 then (bif decide ((acc.length+[(Node.doubts n)[i]].length)*48≤an) then (rec (acc++[(Node.doubts n)[i]],d,((i+1:Nat):Int))) else none) else (rec (acc,d,((i+1:Nat):Int)))))=rec ((acc++(bif !d&&decide (f.1≤(Node.doubts n)[i].1) then [mkD n.2.2.2.2.2.1 f b] else []))++(bif (Node.doubts n)[i].1 != f.1 then [(Node.doubts n)[i]] else []),d||decide (f.1≤(Node.doubts n)[i].1),((i+1:Nat):Int))
  rw[z1,z2,z3]
  cases d <;> cases decide (f.1≤(Node.doubts n)[i].1) <;> cases (Node.doubts n)[i].1 != f.1 <;> simp only[Bool.not_true,Bool.not_false,Bool.true_and,Bool.false_and,Bool.true_or,Bool.false_or,cond_true,cond_false,List.append_nil]
 ·intro rec acc d ha hd
  simp only[Q85.l0.step,aI]
  cases d with
  |true=>simp only[Bool.not_true,cond_false,cond_true,List.append_nil]
  |false =>
   have:=hd rfl
   have z1:decide ((acc.length+[mkD n.2.2.2.2.2.1 f b].length)*48≤an)=true:=szb _ _ _ (by omega) (by simp;omega)
   show (bif decide ((acc.length+[mkD n.2.2.2.2.2.1 f b].length)*48≤an) then some ((acc++[mkD n.2.2.2.2.2.1 f b],()),()) else none)=some ((acc++[mkD n.2.2.2.2.2.1 f b],()),())
   rw[z1]
   rfl
theorem wK (K:Nat)(t:List bi)(node:Int)(ht:t.length≤1048576)(hasc:Asc (fun d:bi=>d.1) t)(h7:∀ d∈t,InP d.1 0 7)(hn:InP node 0 7)(hK:1048577<K) :
  ∃ m,m≤t.length∧(∀ i,(h:i<t.length)→i<m→t[i].1<node)∧(∀ i,(h:i<t.length)→m≤i→node≤t[i].1)∧∃ b,Q150.f K (t,node,(fun y1=>(Q151.f K (y1.1,y1.2.1,())).map fun y=>y.1.1),())=some ((((m:Nat):Int),b,()),()):=by
 let ks:Nat→Int:=fun i=>if h:i<t.length then t[i].1 else 0
 have hks:∀ i (h:i<t.length),ks i=t[i].1:=fun i h=>by simp[ks,h]
 let fin:Nat→Option ((Int×Bool×Unit)×Unit):=fun m=>some ((((m:Nat):Int),decide (∃ h:m<t.length,t[m].1=node),()),())
 have φ:∀ d∈t,((Q151.f K (d,node,())).map fun y=>y.1.1)=some (d.1-node):=fun d hd=>by
  obtain⟨a1,a2⟩:=h7 d hd
  obtain⟨a3,a4⟩:=hn
  simp only[Q151.f]
  rw[cM (by omega) (by omega)]
  rfl
 have:=ui (step:=fun rec a=>Q150.l0.step K (t,node,(fun y1=>(Q151.f K (y1.1,y1.2.1,())).map fun y=>y.1.1),()) rec a) (ks:=ks) (n:=t.length) (t:=node) fin ht
  (fun i j hij hj=>by
   rw[hks i (by omega),hks j hj]
   exact dr.1 hasc i j (by omega) hj hij) ?_ ?_ t.length K 0 t.length (by omega) (Nat.zero_le _) (Nat.le_refl _) (by omega) (fun i hi=>by omega) (fun i hi hn=>by omega)
 ·obtain⟨m,h1,h2,h3,h4⟩:=this
  exact⟨m,h1,fun i h hi=>by rw[← hks i h];exact h2 i hi,fun i h hi=>by rw[← hks i h];exact h3 i hi h,_,h4⟩
 ·intro rec a b hab hb
  have hm:(a+b) / 2<t.length:=by omega
  simp only[Q150.l0.step]
  rw[decide_eq_true (by omega:(a:Int)<(b:Int)),sw (by omega)]
  simp only[cond_true]
  rw[ag hm]
  simp only[Option.bind_some,φ _ (List.getElem_mem hm)]
  rw[hks _ hm,aq _ (by omega)]
  by_cases h:t[(a+b) / 2].1<node
  ·rw[if_pos h,decide_eq_true (by omega:t[(a+b) / 2].1-node<0)];rfl
  ·rw[if_neg h,decide_eq_false (by omega:¬ t[(a+b) / 2].1-node<0)];rfl
 ·intro rec a ha
  simp only[Q150.l0.step]
  rw[decide_eq_false (by omega)]
  simp only[cond_false]
  by_cases h:a<t.length
  ·rw[decide_eq_true (by omega:(a:Int)<(List.length t:Int)),ag h]
   simp only[cond_true,Option.bind_some,φ _ (List.getElem_mem h)]
   have:(t[a].1-node==0)=decide (∃ h:a<t.length,t[a].1=node):=by
    rw[Bool.eq_iff_iff]
    simp only[beq_iff_eq,decide_eq_true_eq]
    exact⟨fun e=>⟨h,by omega⟩,fun⟨_,e⟩=>by omega⟩
   rw[this]
  ·rw[decide_eq_false (by omega:¬ (a:Int)<(List.length t:Int))]
   simp only[cond_false,fin]
   rw[decide_eq_false (fun⟨h',_⟩=>h h')]
end Go.Proofs.YthgnfidnmnkeaaaGreatEv
namespace Go.Proofs.YthgnfidnmnkeaaaGreatEv
open Go
def setN (n:Node)(t:List ao)(c:List aE)(ds:List bi):Node :=
 (n.1,n.2.1,n.2.2.1,n.2.2.2.1,n.2.2.2.2.1,n.2.2.2.2.2.1,n.2.2.2.2.2.2.1,n.2.2.2.2.2.2.2.1,t,c,n.2.2.2.2.2.2.2.2.2.2.1,ds,n.2.2.2.2.2.2.2.2.2.2.2.2)
def ml (n:Node)(f:ao):Bool:=decide (∃ g∈Node.table n,g.1=f.1∧g.2.1=f.2.1∧g.2.2.1=f.2.2.1)
def cJ (n:Node)(f:ao)(b:Int):Node :=
 bif (cI (Node.table n) f).2 then setN n (cI (Node.table n) f).1 (dP (Node.cast n) f) (bif ml n f then Node.doubts n else eC n.2.2.2.2.2.1 (Node.doubts n) f b) else n
structure cK (n:Node):Prop where
 table:aT (Node.table n)
 cast:cH (Node.cast n)
 asc:Asc (fun d:bi=>d.1) (Node.doubts n)
 inp:∀ d∈Node.doubts n,InP d.1 0 7
 lt:(Node.table n).length≤1048576
 lc:(Node.cast n).length≤1048576
 ld:(Node.doubts n).length≤1048576
theorem qF {n:Node}{f g:ao}(hT:Asc (fun g:ao=>g.1) (Node.table n))(hg:g∈Node.table n)(e:g.1=f.1):ml n f=(g.2.1==f.2.1&&g.2.2.1==f.2.2.1):=by
 rw[Bool.eq_iff_iff,ml,decide_eq_true_eq,Bool.and_eq_true,beq_iff_eq,beq_iff_eq]
 constructor
 ·rintro⟨x,hx,h1,h2,h3⟩
  have:=jR hT hx hg (by rw[h1,e])
  subst this
  exact⟨h2,h3⟩
 ·rintro⟨h1,h2⟩
  exact⟨g,hg,e,h1,h2⟩
theorem qG {n:Node}{f:ao}(h:∀ g∈Node.table n,g.1≠f.1):ml n f=false :=
 decide_eq_false fun⟨g,hg,e,_⟩=>h g hg e
theorem wt (K:Nat)(n:Node)(f:ao)(b:Int)(h:cK n)(hK:1048577<K):Q86.f K (n,f,b,())=some ((cJ n f b,()),()):=by
 simp only[Q86.f]
 rw[show Q83.f K (n.2.2.2.2.2.2.2.2.1,f,())=_ from put_s K (Node.table n) f h.lt h.table.2 hK]
 simp only[Option.bind_some]
 cases hp:(cI (Node.table n) f).2 with
 |false =>
  simp only[cJ,hp]
  rfl
 |true =>
  simp only[cJ,hp,Bool.not_true,cond_false,cond_true]
  obtain⟨o,ho,h1⟩:=e8 K (Node.table n) f.1 h.lt hK
  rw[show Q71.f K (n.2.2.2.2.2.2.2.2.1,f.1,())=_ from h1]
  simp only[Option.bind_some]
  have hd:=wJ K (n.1,n.2.1,n.2.2.1,n.2.2.2.1,n.2.2.2.2.1,n.2.2.2.2.2.1,n.2.2.2.2.2.2.1,n.2.2.2.2.2.2.2.1,(cI (Node.table n) f).1,dP (Node.cast n) f,n.2.2.2.2.2.2.2.2.2.2) f b h.ld h.asc hK
  have hc:=wI K (Node.cast n) f h.lc h.cast.2 hK
  cases ho with
  |at_ i hi e =>
   simp only
   rw[qF h.table.2 (List.getElem_mem hi) e,decide_eq_true (by omega:((i:Nat):Int)≥0)]
   simp only[cond_true]
   rw[show idx n.2.2.2.2.2.2.2.2.1 (i:Int)=some (Node.table n)[i] from ag hi]
   simp only[Option.bind_some]
   rw[show Q84.f K (n.2.2.2.2.2.2.2.2.2.1,f,())=_ from hc]
   simp only[Option.bind_some]
   rw[hd]
   cases (Node.table n)[i].2.1==f.2.1 with
   |true =>
    cases (Node.table n)[i].2.2.1==f.2.2.1 <;> rfl
   |false=>rfl
  |no hno =>
   simp only
   rw[qG hno,decide_eq_false (by omega:¬ (-1:Int)≥0)]
   simp only[cond_false]
   rw[show Q84.f K (n.2.2.2.2.2.2.2.2.2.1,f,())=_ from hc]
   simp only[Option.bind_some]
   rw[hd]
   rfl
theorem nW {α:Type}{k:α→Int}{xs:List α}(h:Asc k xs)(p:α→Bool):Asc k (xs.filter p):=List.Pairwise.filter p h
theorem wL {R:Type}(K:Nat)(now:Int)(ds:List bi)(f:ao)(b:Int)(G:List bi→Option R)(hl:ds.length≤1048576)(hA:Asc (fun d:bi=>d.1) ds)(h7:∀ d∈ds,InP d.1 0 7)(hf:cP f)(hK:1048577<K) :
  ((Q4.f K (ds,(fun y4=>(Q149.f K (y4.1,f,())).map fun y=>y.1.1),())).bind fun y5=>bif f.2.2.1==2 then ((Q150.f K (y5.1.1,f.1,(fun y6=>(Q151.f K (y6.1,y6.2.1,())).map fun y=>y.1.1),())).bind fun y7=>(Q5.f K (y5.1.1,y7.1.1,[mkD now f b],())).bind fun y8=>G y8.1.1) else G y5.1.1)=G (eC now ds f b):=by
 rw[show Q4.f K (ds,(fun y4=>(Q149.f K (y4.1,f,())).map fun y=>y.1.1),())=some ((ds.filter (fun d=>!(d.1==f.1)),()),()) by
  simp only[Q4.f]
  exact pd _ hl (fun d _=>rfl)]
 simp only[Option.bind_some,eC]
 by_cases h2:f.2.2.1=2
 ·rw[if_pos h2,show (f.2.2.1==2)=true by simpa using h2]
  simp only[cond_true]
  have hl':(ds.filter (fun d=>!(d.1==f.1))).length≤1048576:=Nat.le_trans (List.length_filter_le _ _) hl
  obtain⟨m,hm,lo,hi,b',e⟩:=wK K (ds.filter (fun d=>!(d.1==f.1))) f.1 hl' (nW hA _) (fun d hd=>h7 d (List.mem_filter.1 hd).1) hf.1 hK
  rw[e]
  simp only[Option.bind_some]
  rw[show Q5.f K (ds.filter (fun d=>!(d.1==f.1)),(m:Int),[mkD now f b],())=some (((ds.filter (fun d=>!(d.1==f.1))).take m++[mkD now f b]++(ds.filter (fun d=>!(d.1==f.1))).drop m,()),()) by
   simp only[Q5.f]
   exact lv hm (by omega) hl']
  simp only[Option.bind_some]
  have:=jm (k:=fun d:bi=>d.1) (x:=mkD now f b) hm lo (fun i h hmi=>by
   have h1:=hi i h hmi
   have h3:(!((ds.filter (fun d=>!(d.1==f.1)))[i].1==f.1))=true:=(List.mem_filter.1 (List.getElem_mem h)).2
   have h4:(ds.filter (fun d=>!(d.1==f.1)))[i].1≠f.1:=by simpa using h3
   show f.1<_
   omega)
  rw[this]
  exact congrArg G (r9 (k:=fun d:bi=>d.1) (x:=mkD now f b))
 ·rw[if_neg h2,show (f.2.2.1==2)=false by simpa using h2]
  rfl
theorem wu (K:Nat)(n:Node)(f:ao)(b:Int)(h:cK n)(hf:cP f)(hK:1048577<K):Q152.f K (n,f,b,())=some ((),(cJ n f b,())):=by
 simp only[Q152.f]
 have hw:∃ g:ao,∃ b',Q123.f K (Node.table n,f.1,())=some ((g,b',()),())∧ml n f=(g.2.2.1==f.2.2.1&&g.2.1==f.2.1):=by
  rcases iv K (Node.table n) f.1 h.lt hK with ⟨h1,_⟩|⟨_,⟨g,hg,e,h1⟩|⟨h0,h1⟩⟩
  ·exact absurd h.table h1
  ·exact⟨g,_,h1,by rw[qF h.table.2 hg e,Bool.and_comm]⟩
  ·refine⟨_,_,h1,?_⟩
   rw[qG h0,show ((0:Int)==f.2.2.1)=false by have:=hf.2.2.1;simp;omega]
   rfl
 obtain⟨g,b',h1,h2⟩:=hw
 rw[show Q123.f K (n.2.2.2.2.2.2.2.2.1,f.1,())=_ from h1]
 simp only[Option.bind_some]
 rw[show Q146.f K (n.2.2.2.2.2.2.2.2.1,f,())=_ from wq K (Node.table n) f h.lt h.table.2 hK]
 simp only[Option.bind_some]
 cases hp:(cI (Node.table n) f).2 with
 |false =>
  simp only[cJ,hp]
  rfl
 |true =>
  simp only[cJ,hp,Bool.not_true,cond_false,cond_true]
  rw[show Q147.f K (n.2.2.2.2.2.2.2.2.2.1,f,())=_ from uB K (Node.cast n) f h.lc h.cast hf hK]
  simp only[Option.bind_some]
  have hd:=wL K n.2.2.2.2.2.1 (Node.doubts n) f b (fun ds=>some ((),(setN n (cI (Node.table n) f).1 (dP (Node.cast n) f) ds,()))) h.ld h.asc h.inp hf hK
  rw[h2]
  cases g.2.2.1==f.2.2.1 with
  |true =>
   cases g.2.1==f.2.1 with
   |true=>rfl
   |false=>exact hd
  |false=>exact hd
theorem qH {α:Type}{k:α→Int}{xs:List α}(h:Asc k xs)(h7:∀ x∈xs,InP (k x) 0 7):xs.length≤8:=by
 have:=(mf (xs.map k) [0,1,2,3,4,5,6,7] (by unfold Asc at h;rw[List.pairwise_map];exact h) (by decide) (fun y hy=>by
  obtain⟨x,hx,rfl⟩:=List.mem_map.1 hy
  obtain⟨h1,h2⟩:=h7 x hx
  simp only[List.mem_cons,List.not_mem_nil,or_false]
  omega)).1
 rw[List.length_map]at this
 exact this
theorem mG (t:List ao)(f:ao):(cI t f).1=t∨(cI t f).1=dJ (fun g=>g.1) f t:=by
 unfold cI
 split
 ·split
  ·exact .inr rfl
  ·exact .inl rfl
 ·exact .inr rfl
theorem qI {t:List ao}{f:ao}(h:aT t)(hf:cP f):aT (cI t f).1:=by
 rcases mG t f with e|e
 ·rw[e];exact h
 ·rw[e]
  refine⟨fun g hg=>?_,nj h.2⟩
  rcases jn.1 hg with rfl|⟨h1,_⟩
  ·exact hf
  ·exact h.1 g h1
theorem tw {l:List aE}{f:ao}(h:cH l)(hf:cP f):cH (dP l f):=by
 unfold dP
 split
 ·exact h
 ·refine⟨fun x hx=>?_,nj h.2⟩
  rcases jn.1 hx with rfl|⟨h1,_⟩
  ·exact⟨hf,show (1:Int)≤4 by omega,show (4:Int)≤4 by omega⟩
  ·exact h.1 x h1
theorem lw {now:Int}{ds:List bi}{f:ao}{b:Int}{d:bi}(h:d∈eC now ds f b):d=mkD now f b∨d∈ds:=by
 unfold eC at h
 split at h
 ·rcases jn.1 h with h|h
  ·exact .inl h
  ·exact .inr h.1
 ·exact .inr (List.mem_filter.1 h).1
theorem qJ {now:Int}{ds:List bi}{f:ao}{b:Int}(h:Asc (fun d:bi=>d.1) ds):Asc (fun d:bi=>d.1) (eC now ds f b):=by
 unfold eC
 split
 ·exact nj h
 ·exact nW h _
theorem jE (n:Node)(f:ao)(b:Int):∃ t c ds,cJ n f b=setN n t c ds∧(t=Node.table n∨t=(cI (Node.table n) f).1)∧(c=Node.cast n∨c=dP (Node.cast n) f)∧(ds=Node.doubts n∨ds=eC n.2.2.2.2.2.1 (Node.doubts n) f b):=by
 unfold cJ
 cases (cI (Node.table n) f).2 with
 |false=>exact⟨Node.table n,Node.cast n,Node.doubts n,rfl,.inl rfl,.inl rfl,.inl rfl⟩
 |true =>
  cases ml n f with
  |true=>exact⟨_,_,_,rfl,.inr rfl,.inr rfl,.inl rfl⟩
  |false=>exact⟨_,_,_,rfl,.inr rfl,.inr rfl,.inr rfl⟩
theorem cK.mk' {n:Node}(ht:aT (Node.table n))(hc:cH (Node.cast n))(ha:Asc (fun d:bi=>d.1) (Node.doubts n))(h7:∀ d∈Node.doubts n,InP d.1 0 7):cK n where
 table:=ht
 cast:=hc
 asc:=ha
 inp:=h7
 lt:=Nat.le_trans (qH ht.2 (fun g hg=>(ht.1 g hg).1)) (by decide)
 lc:=Nat.le_trans (qH hc.2 (fun x hx=>(hc.1 x hx).1.1)) (by decide)
 ld:=Nat.le_trans (qH ha h7) (by decide)
theorem qK {n:Node}{f:ao}{b:Int}(h:cK n)(hf:cP f):cK (cJ n f b):=by
 obtain⟨t,c,ds,e,h1,h2,h3⟩:=jE n f b
 rw[e]
 refine cK.mk' ?_ ?_ ?_ ?_
 ·show aT t
  rcases h1 with rfl|rfl
  ·exact h.table
  ·exact qI h.table hf
 ·show cH c
  rcases h2 with rfl|rfl
  ·exact h.cast
  ·exact tw h.cast hf
 ·show Asc _ ds
  rcases h3 with rfl|rfl
  ·exact h.asc
  ·exact qJ h.asc
 ·show ∀ d∈ds,InP d.1 0 7
  rcases h3 with rfl|rfl
  ·exact h.inp
  ·intro d hd
   rcases lw hd with rfl|hd
   ·exact hf.1
   ·exact h.inp d hd
theorem vN {n:Node}{f:ao}{b:Int}(h:∀ d∈Node.doubts n,d.2.2.2.length≤1048576):∀ d∈Node.doubts (cJ n f b),d.2.2.2.length≤1048576:=by
 obtain⟨t,c,ds,e,_,_,h3⟩:=jE n f b
 rw[e]
 show ∀ d∈ds,_
 rcases h3 with rfl|rfl
 ·exact h
 ·intro d hd
  rcases lw hd with rfl|hd
  ·exact Nat.succ_le_of_lt (by decide)
  ·exact h d hd
theorem UpP.say {n:Node}(h:UpP n):cK n:=by
 obtain⟨h1,_,_,⟨h4,_⟩,_,h6,_⟩:=h
 refine cK.mk' h1 h4 h6.2.1 fun d hd=>?_
 obtain⟨f,hf,e,_⟩:=(h6.1 d hd).1
 rw[← e]
 exact (h1.1 f hf).1
theorem mm {α β A R:Type}(t:List α)(p:α→Bool)(g:α→β)(S:List β→Nat→A)(fin:List β→Option R){step:(A→Option R)→A→Option R}
  (h:∀ (rec:A→Option R) (acc:List β) (i:Nat) (hi:i<t.length),acc.length≤i→step rec (S acc i)=rec (S (bif p t[i] then acc++[g t[i]] else acc) (i+1)))
  (hend:∀ (rec:A→Option R) (acc:List β),acc.length≤t.length→step rec (S acc t.length)=fin acc) {k:Nat} (hk:t.length<k) :
  ac step k (S [] 0)=fin ((t.filter p).map g):=by
 have:∀ (d i k:Nat) (acc:List β),i+d=t.length→d<k→acc.length≤i→ac step k (S acc i)=fin (acc++((t.drop i).filter p).map g):=by
  intro d
  induction d with
  |zero =>
   intro i k acc hi hk ha
   obtain⟨k,rfl⟩:∃ k',k=k'+1:=⟨k-1,by omega⟩
   have:i=t.length:=by omega
   subst this
   show step (ac step k) _=_
   rw[hend _ _ ha]
   simp
  |succ d ih =>
   intro i k acc hi hk ha
   obtain⟨k,rfl⟩:∃ k',k=k'+1:=⟨k-1,by omega⟩
   have hlt:i<t.length:=by omega
   show step (ac step k) _=_
   rw[h _ _ _ hlt ha,List.drop_eq_getElem_cons hlt,List.filter_cons]
   cases p t[i] with
   |true =>
    simp only[cond_true,if_true,List.map_cons]
    rw[ih (i+1) k _ (by omega) (by omega) (by simp;omega),List.append_assoc]
    rfl
   |false =>
    simp only[cond_false]
    rw[ih (i+1) k _ (by omega) (by omega) (by omega)]
    rfl
 have:=this t.length 0 k [] (by omega) hk (Nat.le_refl _)
 rwa [List.drop_zero,List.nil_append]at this
end Go.Proofs.YthgnfidnmnkeaaaGreatEv
namespace Go.Proofs.YthgnfidnmnkeaaaGreatEv
open Go
def qL:Node:=(0,false,false,false,0,0,0,0,[],[],(0,0,0,false),[],(0,0,0,0),[],[])
theorem sa:NB qL where
 table:=Nat.zero_le _
 cast:=Nat.zero_le _
 doubts:=Nat.zero_le _
 by_:=fun d hd=>absurd hd List.not_mem_nil
 places:=Nat.zero_le _
 trips:=fun d hd=>absurd hd List.not_mem_nil
 others:=Nat.zero_le _
 facts:=fun d hd=>absurd hd List.not_mem_nil
end Go.Proofs.YthgnfidnmnkeaaaGreatEv
namespace Go.Proofs.YthgnfidnmnkeaaaGreatEv
open Go
theorem szw (a b c:Nat)(hc:c≤128)(h:a+b≤2097152):decide ((a+b)*c≤an)=true:=by
 have:=Nat.mul_le_mul h hc
 exact decide_eq_true (by unfold an;omega)
def pY (kind:Int)(n:Node)(to:Int):bF:=(1,kind,n.1,to,0,n.1,cA n,Node.table n)
theorem sI (K:Nat)(n:Node)(kind to:Int)(hn:(Node.table n).length≤1048576):Q181.f K (n,kind,to,())=some ((pY kind n to,()),()):=by
 simp only[Q181.f,Q160.f,Option.bind_some,Q0.f]
 rw[dx (by show (Node.table n).length*_≤_;omega)]
 rfl
theorem sJ (K:Nat)(n:Node)(kind to:Int)(hn:(Node.table n).length≤1048576):Q89.f K (n,kind,to,0,n.1,Node.table n,())=some ((pY kind n to,()),()):=by
 simp only[Q89.f]
 rw[szb _ _ _ (by omega) (by show (List.length ([]:List ao))+(Node.table n).length≤_;simp;omega)]
 rfl
def dV (f:ao):Bool:=f.2.2.1==1||f.2.2.1==2
theorem wM (K:Nat)(t:List ao)(f:ao)(hT:aT t)(ht:t.length≤1048576)(hf:f∈t)(hK:1048577<K):Q90.f K (t,f.1,())=rb (dV f):=by
 simp only[Q90.f]
 obtain⟨o,ho,h1⟩:=e8 K t f.1 ht hK
 rw[h1]
 simp only[Option.bind_some]
 cases ho with
 |at_ i hi e =>
  simp only
  rw[decide_eq_true (by omega:((i:Nat):Int)≥0),ag hi]
  simp only[cond_true,Option.bind_some]
  rw[jR hT.2 (List.getElem_mem hi) hf e,dV]
  cases f.2.2.1==1 <;> rfl
 |no h=>exact absurd rfl (h f hf)
end Go.Proofs.YthgnfidnmnkeaaaGreatEv
namespace Go.Proofs.YthgnfidnmnkeaaaGreatEv
open Go
theorem pe {α A R:Type}(ds:List α)(st:Node→α→Node)(Inv:Node→Prop)(S:Node→Nat→A)(fin:Node→Option R){step:(A→Option R)→A→Option R}(n:Node)(h0:Inv n)
  (h:∀ (rec:A→Option R) (m:Node) (i:Nat) (hi:i<ds.length),Inv m→step rec (S m i)=rec (S (st m ds[i]) (i+1))∧Inv (st m ds[i]))
  (hend:∀ (rec:A→Option R) (m:Node),Inv m→step rec (S m ds.length)=fin m) {k:Nat} (hk:ds.length<k):ac step k (S n 0)=fin (ds.foldl st n):=by
 have:∀ (d i k:Nat) (m:Node),i+d=ds.length→d<k→Inv m→ac step k (S m i)=fin ((ds.drop i).foldl st m):=by
  intro d
  induction d with
  |zero =>
   intro i k m hi hk hm
   obtain⟨k,rfl⟩:∃ k',k=k'+1:=⟨k-1,by omega⟩
   have:i=ds.length:=by omega
   subst this
   show step (ac step k) _=_
   rw[hend _ _ hm,List.drop_length]
   rfl
  |succ d ih =>
   intro i k m hi hk hm
   obtain⟨k,rfl⟩:∃ k',k=k'+1:=⟨k-1,by omega⟩
   have hlt:i<ds.length:=by omega
   show step (ac step k) _=_
   obtain⟨h1,h2⟩:=h (ac step k) m i hlt hm
   rw[h1,List.drop_eq_getElem_cons hlt]
   exact ih (i+1) k _ (by omega) (by omega) h2
 have:=this ds.length 0 k n (by omega) hk h0
 rwa [List.drop_zero]at this
theorem qM {α:Type}{st:Node→α→Node}{Inv:Node→Prop}:∀ {ds:List α} {n:Node},Inv n→(∀ m,∀ d∈ds,Inv m→Inv (st m d))→Inv (ds.foldl st n)
 |[],_,h,_=>h
 |d::ds,n,h,hs=>qM (ds:=ds) (hs n d (by simp) h) (fun m d' hd'=>hs m d' (by simp[hd']))
def a8 (t:List ao)(node:Int):ao:=(t.find? fun g=>g.1==node).getD (0,0,0,false)
theorem jF {t:List ao}(hA:Asc (fun g:ao=>g.1) t){f:ao}(hf:f∈t):a8 t f.1=f:=by
 obtain⟨i,hi,e⟩:=List.getElem_of_mem hf
 unfold a8
 rw[show t.find? (fun g=>g.1==f.1)=some t[i] from qz hA hi (by rw[e]),e]
 rfl
theorem iy {t:List ao}{node:Int}(h:∀ g∈t,g.1≠node):a8 t node=(0,0,0,false):=by
 unfold a8
 rw[show t.find? (fun g=>g.1==node)=none from sH h]
 rfl
theorem gJ (K:Nat)(t:List ao)(node:Int)(hT:aT t)(ht:t.length≤1048576)(hK:1048577<K):∃ b,Q123.f K (t,node,())=some ((a8 t node,b,()),()):=by
 rcases iv K t node ht hK with ⟨h1,_⟩|⟨_,⟨g,hg,e,h1⟩|⟨h0,h1⟩⟩
 ·exact absurd hT h1
 ·refine⟨true,?_⟩
  rw[h1,← e,jF hT.2 hg]
 ·refine⟨false,?_⟩
  rw[h1,iy h0]
theorem qN (K:Nat)(t:List ao)(node:Int)(hT:aT t)(ht:t.length≤1048576)(hK:1048577<K):Q90.f K (t,node,())=rb (dV (a8 t node)):=by
 by_cases h:∃ f∈t,f.1=node
 ·obtain⟨f,hf,rfl⟩:=h
  rw[wM K t f hT ht hf hK,jF hT.2 hf]
 ·have h0:∀ g∈t,g.1≠node:=fun g hg e=>h ⟨g,hg,e⟩
  simp only[Q90.f]
  obtain⟨o,ho,h1⟩:=e8 K t node ht hK
  rw[h1,iy h0]
  cases ho with
  |at_ i hi e=>exact absurd e (h0 _ (List.getElem_mem hi))
  |no _=>rfl
theorem qO (K:Nat)(n:Node)(node:Int)(hT:aT (Node.table n))(ht:(Node.table n).length≤1048576)(hK:1048577<K):Q159.f K (n,node,())=rb (dV (a8 (Node.table n) node)):=by
 simp only[Q159.f,Q158.f]
 obtain⟨b,hw⟩:=gJ K (Node.table n) node hT ht hK
 rw[show Q123.f K (n.2.2.2.2.2.2.2.2.1,node,())=_ from hw]
 simp only[Option.bind_some]
 obtain⟨b,h1,h2⟩:=eO K (a8 (Node.table n) node).2.2.1 1 2
 rw[h1]
 have:b=dV (a8 (Node.table n) node):=by
  rw[Bool.eq_iff_iff,h2,dV,Bool.or_eq_true,beq_iff_eq,beq_iff_eq]
  show (1≤(a8 (Node.table n) node).2.2.1∧(a8 (Node.table n) node).2.2.1≤2)↔_
  omega
 rw[this]
 rfl
theorem gK (n:Node)(f:ao)(b:Int):(cJ n f b).1=n.1∧(cJ n f b).2.1=n.2.1∧(cJ n f b).2.2.1=n.2.2.1∧(cJ n f b).2.2.2.1=n.2.2.2.1∧(cJ n f b).2.2.2.2.1=n.2.2.2.2.1∧(cJ n f b).2.2.2.2.2.1=n.2.2.2.2.2.1∧(cJ n f b).2.2.2.2.2.2.1=n.2.2.2.2.2.2.1∧(cJ n f b).2.2.2.2.2.2.2.1=n.2.2.2.2.2.2.2.1∧ae (cJ n f b)=ae n∧(cJ n f b).2.2.2.2.2.2.2.2.2.2.2.2=n.2.2.2.2.2.2.2.2.2.2.2.2:=by
 obtain⟨t,c,ds,e,_⟩:=jE n f b
 rw[e]
 exact⟨rfl,rfl,rfl,rfl,rfl,rfl,rfl,rfl,rfl,rfl⟩
theorem uC {t:List ao}{f g:ao}(hg:g∈t):∃ g'∈(cI t f).1,g'.1=g.1:=by
 rcases mG t f with e|e
 ·rw[e];exact⟨g,hg,rfl⟩
 ·rw[e]
  by_cases h:g.1=f.1
  ·exact⟨f,jn.2 (.inl rfl),h.symm⟩
  ·exact⟨g,jn.2 (.inr ⟨hg,h⟩),rfl⟩
theorem uD {n:Node}{f:ao}{b:Int}{g:ao}(hg:g∈Node.table n):∃ g'∈Node.table (cJ n f b),g'.1=g.1:=by
 obtain⟨t,c,ds,e,h1,_⟩:=jE n f b
 rw[e]
 rcases h1 with rfl|rfl
 ·exact⟨g,hg,rfl⟩
 ·exact uC hg
def kH (now since:Int)(len:Nat):Bool:=decide (now-since≥if 6-(len:Int)+1<3 then 3 else 6-(len:Int)+1)
def nX (f:ao):ao:=(f.1,f.2.1,3,f.2.2.2)
def eX (n:Node)(d:bi):Node:=bif kH n.2.2.2.2.2.1 d.2.2.1 d.2.2.2.length then cJ n (nX (a8 (Node.table n) d.1)) n.1 else n
def lx (n:Node):Node:=(Node.doubts n).foldl eX n
theorem due_s (K:Nat)(now:Int)(d:bi)(h0:0≤d.2.2.1)(h1:d.2.2.1≤now)(h2:now≤1000000)(hl:d.2.2.2.length≤1048576):Q87.f K (now,d,())=rb (kH now d.2.2.1 d.2.2.2.length):=by
 simp only[Q87.f]
 rw[cM (n:=6-(List.length d.2.2.2:Int)) (by omega) (by omega),cM (n:=6-(List.length d.2.2.2:Int)+1) (by omega) (by omega),cM (n:=now-d.2.2.1) (by omega) (by omega)]
 unfold kH
 by_cases h:6-(List.length d.2.2.2:Int)+1<3
 ·rw[decide_eq_true h,if_pos h];rfl
 ·rw[decide_eq_false h,if_neg h];rfl
theorem xi (K:Nat)(a b c:Int)(len:Nat)(hl:len≤1048576):Q153.f K ((a,b,c,len),())=some ((if 6-(len:Int)+1<3 then 3 else 6-(len:Int)+1,()),()):=by
 simp only[Q153.f]
 rw[cM (n:=6-(len:Int)) (by omega) (by omega),cM (n:=6-(len:Int)+1) (by omega) (by omega)]
 by_cases h:6-(len:Int)+1<3
 ·rw[decide_eq_true h,if_pos h];rfl
 ·rw[decide_eq_false h,if_neg h];rfl
structure iz (ds:List bi) (now:Int) (n:Node):Prop where
 ok:cK n
 key:∀ d∈ds,∃ f∈Node.table n,f.1=d.1
 now_:n.2.2.2.2.2.1=now
theorem oJ {f:ao}(h:cP f):cP (nX f):=⟨h.1,h.2.1,show (1:Int)≤3 by omega,show (3:Int)≤4 by omega⟩
theorem eS {t:List ao}{node:Int}(hT:aT t)(h:∃ f∈t,f.1=node):cP (a8 t node)∧(a8 t node).1=node∧a8 t node∈t:=by
 obtain⟨f,hf,rfl⟩:=h
 rw[jF hT.2 hf]
 exact⟨hT.1 f hf,rfl,hf⟩
theorem jV {ds:List bi}{now:Int}{n:Node}{d:bi}(h:iz ds now n)(hd:d∈ds):iz ds now (eX n d):=by
 unfold eX
 cases kH n.2.2.2.2.2.1 d.2.2.1 d.2.2.2.length with
 |false=>exact h
 |true =>
  have hf:=oJ (eS h.ok.table (h.key d hd)).1
  refine⟨qK h.ok hf,fun d' hd'=>?_,(gK n _ _).2.2.2.2.2.1.trans h.now_⟩
  obtain⟨g,hg,e⟩:=h.key d' hd'
  obtain⟨g',hg',e'⟩:=uD (f:=nX (a8 (Node.table n) d.1)) (b:=n.1) hg
  exact⟨g',hg',e'.trans e⟩
theorem xj (K:Nat)(n:Node)(h:iz (Node.doubts n) n.2.2.2.2.2.1 n)(hd:∀ d∈Node.doubts n,0≤d.2.2.1∧d.2.2.1≤n.2.2.2.2.2.1∧d.2.2.2.length≤1048576)(hnow:n.2.2.2.2.2.1≤1000000)(hK:1048577<K):Q88.f K (n,())=some ((lx n,()),()):=by
 have hl:=h.ok.ld
 refine pe (step:=fun rec a=>Q88.l0.step K (n,()) rec a) (Node.doubts n) eX (iz (Node.doubts n) n.2.2.2.2.2.1) (fun m i=>((i:Int),m.1,m.2.1,m.2.2.1,m.2.2.2.1,m.2.2.2.2.1,m.2.2.2.2.2.1,m.2.2.2.2.2.2.1,m.2.2.2.2.2.2.2.1,m.2.2.2.2.2.2.2.2.1,m.2.2.2.2.2.2.2.2.2.1,m.2.2.2.2.2.2.2.2.2.2.1.1,m.2.2.2.2.2.2.2.2.2.2.1.2.1,m.2.2.2.2.2.2.2.2.2.2.1.2.2.1,m.2.2.2.2.2.2.2.2.2.2.1.2.2.2,m.2.2.2.2.2.2.2.2.2.2.2.1,m.2.2.2.2.2.2.2.2.2.2.2.2.1.1,m.2.2.2.2.2.2.2.2.2.2.2.2.1.2.1,m.2.2.2.2.2.2.2.2.2.2.2.2.1.2.2.1,m.2.2.2.2.2.2.2.2.2.2.2.2.1.2.2.2,m.2.2.2.2.2.2.2.2.2.2.2.2.2.1,m.2.2.2.2.2.2.2.2.2.2.2.2.2.2)) (fun m=>some ((m,()),())) n h ?_ ?_ (by omega)
 ·intro rec m i hi hm
  refine⟨?_,jV hm (List.getElem_mem hi)⟩
  simp only[Q88.l0.step]
  obtain⟨d0,d1,d2⟩:=hd _ (List.getElem_mem hi)
  rw[show decide ((i:Int)<(List.length n.2.2.2.2.2.2.2.2.2.2.2.1:Int))=true from bj (by omega:(i:Int)<(List.length (Node.doubts n):Int)),show idx n.2.2.2.2.2.2.2.2.2.2.2.1 (i:Int)=some (Node.doubts n)[i] from ag hi,aq i (by omega)]
  simp only[cond_true,Option.bind_some]
  rw[due_s K m.2.2.2.2.2.1 (Node.doubts n)[i] d0 (by rw[hm.now_];exact d1) (by rw[hm.now_];exact hnow) d2]
  simp only[Option.bind_some]
  have hkey:=hm.key _ (List.getElem_mem hi)
  generalize (Node.doubts n)[i]=d at hkey d0 d1 d2 ⊢
  unfold eX
  cases kH m.2.2.2.2.2.1 d.2.2.1 d.2.2.2.length with
  |false=>rfl
  |true =>
   simp only[cond_true]
   have hft:=eS hm.ok.table hkey
   obtain⟨o,ho,h1⟩:=e8 K (Node.table m) d.1 hm.ok.lt hK
   rw[show Q71.f K (m.2.2.2.2.2.2.2.2.1,d.1,())=_ from h1]
   simp only[Option.bind_some]
   cases ho with
   |no h=>exact absurd hkey (fun⟨f,hf,e⟩=>h f hf e)
   |at_ j hj e =>
    simp only
    rw[show idx m.2.2.2.2.2.2.2.2.1 ((j:Nat):Int)=some (Node.table m)[j] from ag hj,jR hm.ok.table.2 (List.getElem_mem hj) hft.2.2 (by rw[e,hft.2.1])]
    simp only[Option.bind_some]
    refine (congrArg (fun o=>Option.bind o _) (wt K m (nX (a8 (Node.table m) d.1)) m.1 hm.ok hK)).trans ?_
    rfl
 ·intro rec m hm
  simp only[Q88.l0.step]
  rw[show decide ((List.length (Node.doubts n):Int)<(List.length n.2.2.2.2.2.2.2.2.2.2.2.1:Int))=false from aI _]
  rfl
theorem xk (K:Nat)(n:Node)(h:iz (Node.doubts n) n.2.2.2.2.2.1 n)(hd:∀ d∈Node.doubts n,0≤d.2.2.1∧d.2.2.1≤n.2.2.2.2.2.1∧d.2.2.2.length≤1048576)(hnow:n.2.2.2.2.2.1≤1000000)(hK:1048577<K):Q154.f K (n,())=some ((),(lx n,())):=by
 have hl:=h.ok.ld
 simp only[Q154.f,Q154.pre]
 have hc:∃ hs:List (Int×Int×Int×Nat),hs=(Node.doubts n).map (fun d=>(d.1,d.2.1,d.2.2.1,d.2.2.2.length))∧Q7.f K (Node.doubts n,())=some ((hs,()),()):=by
  refine⟨_,rfl,?_⟩
  simp only[Q7.f,oz]
  rw[dx (by omega)]
  rfl
 obtain⟨hs,hhs,e⟩:=hc
 rw[show Q7.f K (n.2.2.2.2.2.2.2.2.2.2.2.1,())=_ from e]
 simp only[Option.bind_some]
 have hhl:hs.length=(Node.doubts n).length:=by rw[hhs,List.length_map]
 have hget:∀ i (hi:i<(Node.doubts n).length),hs[i]'(by rw[hhl];exact hi)=((Node.doubts n)[i].1,(Node.doubts n)[i].2.1,(Node.doubts n)[i].2.2.1,(Node.doubts n)[i].2.2.2.length):=fun i hi=>by
  simp only[hhs,List.getElem_map]
 clear hhs
 refine pe (step:=fun rec a=>Q154.l0.step K (n,()) rec a) (Node.doubts n) eX (iz (Node.doubts n) n.2.2.2.2.2.1) (fun m i=>(hs,(List.length hs:Int),(i:Int),m.1,m.2.1,m.2.2.1,m.2.2.2.1,m.2.2.2.2.1,m.2.2.2.2.2.1,m.2.2.2.2.2.2.1,m.2.2.2.2.2.2.2.1,m.2.2.2.2.2.2.2.2.1,m.2.2.2.2.2.2.2.2.2.1,m.2.2.2.2.2.2.2.2.2.2.1.1,m.2.2.2.2.2.2.2.2.2.2.1.2.1,m.2.2.2.2.2.2.2.2.2.2.1.2.2.1,m.2.2.2.2.2.2.2.2.2.2.1.2.2.2,m.2.2.2.2.2.2.2.2.2.2.2.1,m.2.2.2.2.2.2.2.2.2.2.2.2.1.1,m.2.2.2.2.2.2.2.2.2.2.2.2.1.2.1,m.2.2.2.2.2.2.2.2.2.2.2.2.1.2.2.1,m.2.2.2.2.2.2.2.2.2.2.2.2.1.2.2.2,m.2.2.2.2.2.2.2.2.2.2.2.2.2.1,m.2.2.2.2.2.2.2.2.2.2.2.2.2.2)) (fun m=>some ((),(m,()))) n h ?_ ?_ (by omega)
 ·intro rec m i hi hm
  refine⟨?_,jV hm (List.getElem_mem hi)⟩
  simp only[Q154.l0.step]
  have hi':i<hs.length:=by rw[hhl];exact hi
  obtain⟨d0,d1,d2⟩:=hd _ (List.getElem_mem hi)
  rw[bj (by omega:(i:Int)<(List.length hs:Int)),ag hi',aq i (by omega),Int.toNat_natCast,ag hi',hget i hi]
  simp only[cond_true,Option.bind_some]
  have hkey:=hm.key _ (List.getElem_mem hi)
  generalize (Node.doubts n)[i]=d at hkey d0 d1 d2 ⊢
  rw[xi K d.1 d.2.1 d.2.2.1 d.2.2.2.length d2]
  simp only[Option.bind_some]
  have hnm:=hm.now_
  rw[cM (n:=m.2.2.2.2.2.1-d.2.2.1) (by omega) (by omega)]
  have hdue:decide (m.2.2.2.2.2.1-d.2.2.1<if 6-(List.length d.2.2.2:Int)+1<3 then 3 else 6-(List.length d.2.2.2:Int)+1)=!kH m.2.2.2.2.2.1 d.2.2.1 d.2.2.2.length:=by
   unfold kH
   rw[Bool.eq_iff_iff]
   simp
  rw[show decide (m.2.2.2.2.2.1-d.2.2.1<(if 6-(List.length d.2.2.2:Int)+1<3 then 3 else 6-(List.length d.2.2.2:Int)+1:Int))=_ from hdue]
  unfold eX
  cases kH m.2.2.2.2.2.1 d.2.2.1 d.2.2.2.length with
  |false=>rfl
  |true =>
   simp only[Bool.not_true,cond_false,cond_true]
   have hft:=eS hm.ok.table hkey
   obtain⟨b,hw⟩:=gJ K (Node.table m) d.1 hm.ok.table hm.ok.lt hK
   rw[show Q123.f K (m.2.2.2.2.2.2.2.2.1,d.1,())=_ from hw]
   simp only[Option.bind_some]
   refine (congrArg (fun o=>Option.bind o _) (wu K m (nX (a8 (Node.table m) d.1)) m.1 hm.ok (oJ hft.1) hK)).trans ?_
   rfl
 ·intro rec m hm
  simp only[Q154.l0.step]
  rw[← hhl,aI]
  rfl
def setP (n:Node)(p:ao):Node:=(n.1,n.2.1,n.2.2.1,n.2.2.2.1,n.2.2.2.2.1,n.2.2.2.2.2.1,n.2.2.2.2.2.2.1,n.2.2.2.2.2.2.2.1,n.2.2.2.2.2.2.2.2.1,n.2.2.2.2.2.2.2.2.2.1,p,n.2.2.2.2.2.2.2.2.2.2.2)
def noP:ao:=(-1,0,0,false)
def pZ (f:ao):ao:=(f.1,f.2.1,2,f.2.2.2)
def nY (n:Node)(f:ao):Bool:=f.2.2.1==1&&f.1 != n.1&&f.1 != (ae n).1
def ca (n:Node):List Int:=(((Node.table n).filter (nY n)).map (·.1)).take 2
def askW (n:Node)(to:Int):bF:=(1,3,n.1,to,(ae n).2.2.1,(ae n).1,cA n,[])
def kj (n:Node):Node:=setP n ((ae n).1,(ae n).2.1,(ae n).2.2.1,true)
def cC (n:Node):Node×List bF :=
 bif (ae n).1==-1 then (n,[]) else
 bif !dV (a8 (Node.table n) (ae n).1) then (setP n noP,[]) else
 bif decide (n.2.2.2.2.2.1-(ae n).2.1≥4) then (bif (a8 (Node.table n) (ae n).1).2.2.1==1 then cJ (setP n noP) (pZ (a8 (Node.table n) (ae n).1)) n.1 else setP n noP,[]) else
 bif decide (n.2.2.2.2.2.1-(ae n).2.1≥2) then (bif !(ae n).2.2.2 then (kj n,(ca n).map (askW n)) else (n,[])) else (n,[])
theorem cK.setP {n:Node}(h:cK n)(p:ao):cK (setP n p):=⟨h.table,h.cast,h.asc,h.inp,h.lt,h.lc,h.ld⟩
theorem sK {f:ao}(h:cP f):cP (pZ f):=⟨h.1,h.2.1,show (1:Int)≤2 by omega,show (2:Int)≤4 by omega⟩
theorem ip {t:List ao}{node:Int}(h:dV (a8 t node)=true):∃ f∈t,f.1=node:=by
 by_cases h1:∃ f∈t,f.1=node
 ·exact h1
 ·rw[iy (fun g hg e=>h1 ⟨g,hg,e⟩)]at h
  simp[dV]at h
theorem uE (K:Nat)(n:Node)(ht:(Node.table n).length≤1048576)(hK:1048577<K):Q91.f K (n,())=some ((ca n,()),()):=by
 have:=jS (step:=fun rec a=>Q91.l0.step K (n,()) rec a) (Node.table n) (nY n) (fun f=>f.1) 2 (fun xs=>some ((xs,()),())) ?_ ?_ ?_ (Node.table n).length 0 K [] (by omega) (by omega) (Nat.le_refl _) (by simp)
 ·exact this
 ·intro rec acc i hi ha hn
  simp only[Q91.l0.step]
  rw[show decide ((i:Int)<(List.length n.2.2.2.2.2.2.2.2.1:Int))=true from bj (by omega:(i:Int)<(List.length (Node.table n):Int)),show idx n.2.2.2.2.2.2.2.2.1 (i:Int)=some (Node.table n)[i] from ag hi,aq i (by omega),decide_eq_true (by omega:(List.length acc:Int)<2)]
  simp only[cond_true,Option.bind_some,nY]
  show (bif (Node.table n)[i].1 != n.1 then (bif (Node.table n)[i].1 != (ae n).1 then (bif (Node.table n)[i].2.2.1==1 then (bif decide ((List.length acc+List.length ([(Node.table n)[i].1]))*8≤an) then (rec (acc++([(Node.table n)[i].1]),((i+1:Nat):Int))) else none) else (rec (acc,((i+1:Nat):Int)))) else (rec (acc,((i+1:Nat):Int)))) else (rec (acc,((i+1:Nat):Int))))=_
  rw[szb _ _ _ (by omega) (by simp;omega)]
  cases (Node.table n)[i].1 != n.1 <;> cases (Node.table n)[i].1 != (ae n).1 <;> cases (Node.table n)[i].2.2.1==1 <;> rfl
 ·intro rec acc i hi ha hn
  simp only[Q91.l0.step]
  rw[show decide ((i:Int)<(List.length n.2.2.2.2.2.2.2.2.1:Int))=true from bj (by omega:(i:Int)<(List.length (Node.table n):Int)),decide_eq_false (by omega:¬ (List.length acc:Int)<2)]
  rfl
 ·intro rec acc _
  simp only[Q91.l0.step]
  rw[show decide ((List.length (Node.table n):Int)<(List.length n.2.2.2.2.2.2.2.2.1:Int))=false from aI _]
  rfl
theorem uF (K:Nat)(n m:Node)(p:ao)(hm:Node.table m=Node.table n∧m.1=n.1)(hp:p=ae n)(ht:(Node.table n).length≤1048576)(hK:1048577<K) :
  ((Q157.f K (Node.table n,(fun y4=>(Q161.f K (y4.1,m,p,())).map fun y=>y.1.1),())).bind fun y5=>Q156.f K (y5.1.1,2,()))=some ((ca n,()),()):=by
 rw[oI K (Node.table n) _ (nY n) ht hK (fun f _=>by
  simp only[Q161.f,nY]
  rw[hm.2,hp]
  cases f.2.2.1==1 <;> cases f.1 != n.1 <;> cases f.1 != (ae n).1 <;> rfl)]
 simp only[Option.bind_some]
 rw[oH K _ 2 (by rw[List.length_map];exact Nat.le_trans (List.length_filter_le _ _) ht)]
 rfl
theorem vO (K:Nat)(n:Node)(h:cK n)(h0:0≤(ae n).2.1)(h1:(ae n).2.1≤1000000)(hn0:0≤n.2.2.2.2.2.1)(hn1:n.2.2.2.2.2.1≤1000000)(hK:1048577<K) :
  Q162.f K (n,())=some (((cC n).2,()),((cC n).1,())):=by
 simp only[Q162.f,Q162.pre]
 obtain⟨b,hw⟩:=gJ K (Node.table n) (ae n).1 h.table h.lt hK
 rw[show Q123.f K (n.2.2.2.2.2.2.2.2.1,n.2.2.2.2.2.2.2.2.2.2.1.1,())=_ from hw]
 simp only[Option.bind_some,cC]
 show (bif (ae n).1==-1 then _ else _)=_
 cases (ae n).1==-1 with
 |true=>rfl
 |false =>
  simp only[cond_false]
  rw[show Q159.f K (n,n.2.2.2.2.2.2.2.2.2.2.1.1,())=_ from qO K n (ae n).1 h.table h.lt hK]
  simp only[Option.bind_some]
  cases hl:dV (a8 (Node.table n) (ae n).1) with
  |false=>rfl
  |true =>
   have hf:=eS h.table (ip hl)
   simp only[Bool.not_true,cond_false]
   rw[cM (n:=n.2.2.2.2.2.1-n.2.2.2.2.2.2.2.2.2.2.1.2.1) (by show -9223372036854775808≤n.2.2.2.2.2.1-(ae n).2.1;omega) (by show n.2.2.2.2.2.1-(ae n).2.1≤9223372036854775807;omega)]
   show (bif decide (n.2.2.2.2.2.1-(ae n).2.1≥4) then _ else _)=_
   cases decide (n.2.2.2.2.2.1-(ae n).2.1≥4) with
   |true =>
    simp only[cond_true]
    cases (a8 (Node.table n) (ae n).1).2.2.1==1 with
    |true =>
     simp only[cond_true]
     refine (congrArg (fun o=>Option.bind o _) (wu K (setP n noP) (pZ (a8 (Node.table n) (ae n).1)) n.1 (h.setP noP) (sK hf.1) hK)).trans ?_
     rfl
    |false=>rfl
   |false =>
    simp only[cond_false]
    show (bif decide (n.2.2.2.2.2.1-(ae n).2.1≥2) then _ else _)=_
    cases decide (n.2.2.2.2.2.1-(ae n).2.1≥2) with
    |false=>rfl
    |true =>
     simp only[cond_true]
     show (bif !(ae n).2.2.2 then _ else _)=_
     cases hask:(ae n).2.2.2 with
     |true=>rfl
     |false =>
      simp only[Bool.not_false,cond_true]
      have hh:=uF K n (kj n) (ae n) ⟨rfl,rfl⟩ rfl h.lt hK
      obtain⟨y,hy,hy2⟩:=Option.bind_eq_some_iff.1 hh
      refine (congrArg (fun o=>Option.bind o _) hy).trans ?_
      simp only[Option.bind_some]
      rw[hy2]
      simp only[Option.bind_some]
      have hlen:(ca n).length≤2:=List.length_take_le _ _
      refine Eq.trans (mm (step:=fun rec a=>Q162.l0.step K (n,()) rec a) (ca n) (fun _=>true) (askW n) (fun acc i=>(acc,ca n,(List.length (ca n):Int),(i:Int))) (fun ws=>some ((ws,()),(kj n,()))) ?_ ?_ (by omega)) (by rw[List.filter_eq_self.2 (fun _ _=>rfl)])
      ·intro rec acc i hi ha
       simp only[Q162.l0.step]
       rw[bj (by omega:(i:Int)<(List.length (ca n):Int)),ag hi,aq i (by omega),Int.toNat_natCast,ag hi]
       simp only[cond_true,Option.bind_some,Q160.f]
       rw[szw _ _ _ (by omega) (by simp;omega)]
       rfl
      ·intro rec acc ha
       simp only[Q162.l0.step,aI]
       rfl
theorem xm (K:Nat)(n:Node)(h:cK n)(hp:(ae n).1≠-1)(h0:0≤(ae n).2.1)(h1:(ae n).2.1≤1000000)(hn0:0≤n.2.2.2.2.2.1)(hn1:n.2.2.2.2.2.1≤1000000)(hK:1048577<K) :
  Q92.f K (n,())=some (((cC n).1,(cC n).2,()),()):=by
 simp only[Q92.f,Q92.pre,cC]
 rw[show ((ae n).1==-1)=false by simpa using hp]
 simp only[cond_false]
 rw[show Q90.f K (n.2.2.2.2.2.2.2.2.1,n.2.2.2.2.2.2.2.2.2.2.1.1,())=_ from qN K (Node.table n) (ae n).1 h.table h.lt hK]
 simp only[Option.bind_some]
 cases hl:dV (a8 (Node.table n) (ae n).1) with
 |false=>rfl
 |true =>
  have hf:=eS h.table (ip hl)
  simp only[Bool.not_true,cond_false]
  rw[cM (n:=n.2.2.2.2.2.1-n.2.2.2.2.2.2.2.2.2.2.1.2.1) (by show -9223372036854775808≤n.2.2.2.2.2.1-(ae n).2.1;omega) (by show n.2.2.2.2.2.1-(ae n).2.1≤9223372036854775807;omega)]
  show (bif decide (n.2.2.2.2.2.1-(ae n).2.1≥4) then _ else _)=_
  cases decide (n.2.2.2.2.2.1-(ae n).2.1≥4) with
  |true =>
   simp only[cond_true]
   obtain⟨o,ho,e1⟩:=e8 K (Node.table n) (ae n).1 h.lt hK
   rw[show Q71.f K (n.2.2.2.2.2.2.2.2.1,n.2.2.2.2.2.2.2.2.2.2.1.1,())=_ from e1]
   simp only[Option.bind_some]
   cases ho with
   |no hno=>exact absurd (ip hl) (fun⟨f,hf,e⟩=>hno f hf e)
   |at_ j hj e =>
    simp only
    rw[show idx n.2.2.2.2.2.2.2.2.1 ((j:Nat):Int)=some (Node.table n)[j] from ag hj,jR h.table.2 (List.getElem_mem hj) hf.2.2 (by rw[e,hf.2.1])]
    simp only[Option.bind_some]
    cases (a8 (Node.table n) (ae n).1).2.2.1==1 with
    |true =>
     simp only[cond_true]
     refine (congrArg (fun o=>Option.bind o _) (wt K (setP n noP) (pZ (a8 (Node.table n) (ae n).1)) n.1 (h.setP noP) hK)).trans ?_
     rfl
    |false=>rfl
  |false =>
   simp only[cond_false]
   show (bif decide (n.2.2.2.2.2.1-(ae n).2.1≥2) then _ else _)=_
   cases decide (n.2.2.2.2.2.1-(ae n).2.1≥2) with
   |false=>rfl
   |true =>
    simp only[cond_true]
    show (bif !(ae n).2.2.2 then _ else _)=_
    cases hask:(ae n).2.2.2 with
    |true=>rfl
    |false =>
     simp only[Bool.not_false,cond_true]
     refine (congrArg (fun o=>Option.bind o _) (uE K (kj n) h.lt hK)).trans ?_
     simp only[Option.bind_some]
     rw[show ca (kj n)=ca n from rfl]
     have hlen:(ca n).length≤2:=List.length_take_le _ _
     refine Eq.trans (mm (step:=fun rec a=>Q92.l0.step K (n,()) rec a) (ca n) (fun _=>true) (askW n) (fun acc i=>(acc,ca n,(i:Int))) (fun ws=>some ((kj n,ws,()),())) ?_ ?_ (by omega)) (by rw[List.filter_eq_self.2 (fun _ _=>rfl)])
     ·intro rec acc i hi ha
      simp only[Q92.l0.step]
      rw[bj (by omega:(i:Int)<(List.length (ca n):Int)),ag hi,aq i (by omega),Int.toNat_natCast,ag hi]
      simp only[cond_true,Option.bind_some,Q89.f]
      rw[szb _ _ _ (by omega) (by simp)]
      simp only[cond_true,Option.bind_some]
      rw[szw _ _ _ (by omega) (by simp;omega)]
      rfl
     ·intro rec acc ha
      simp only[Q92.l0.step,aI]
      rfl
end Go.Proofs.YthgnfidnmnkeaaaGreatEv
namespace Go.Proofs.YthgnfidnmnkeaaaGreatEv
open Go
def dC (l:List aE)(i:Int):Int:=((l[i.toNat]?).map (·.2)).getD 0
def ltL (l:List aE)(a b:Int):Bool:=decide (dC l b<dC l a)
def lt2 (l:List aE)(a b:Int):Prop:=dC l b<dC l a∨(dC l a=dC l b∧a<b)
def b7 (n:Nat):List Int:=(List.range n).map fun (i:Nat)=>(i:Int)
def bm (l:List aE):List Int:=co (ltL l) [] (b7 l.length)
theorem gi {n:Nat}{i:Int}:i∈b7 n↔0≤i∧i<n:=by
 unfold b7
 rw[List.mem_map]
 constructor
 ·rintro⟨j,hj,rfl⟩
  have:=List.mem_range.1 hj
  omega
 ·rintro⟨h0,h1⟩
  exact⟨i.toNat,List.mem_range.2 (by omega),by omega⟩
theorem gW (n:Nat):(b7 n).Pairwise (·<·):=by
 unfold b7
 rw[List.pairwise_map]
 exact List.pairwise_lt_range.imp fun h=>by omega
theorem dj {l:List aE}{i:Nat}(h:i<l.length):dC l (i:Int)=l[i].2:=by
 unfold dC
 rw[Int.toNat_natCast,List.getElem?_eq_getElem h]
 rfl
theorem qP (l:List aE):∀ (xs done:List Int),done.Pairwise (lt2 l)→(∀ a∈done,∀ b∈xs,a<b)→xs.Pairwise (·<·)→(co (ltL l) done xs).Pairwise (lt2 l)
 |[],done,h,_,_=>h
 |x::xs,done,h,hlt,hxs=>by
  have hxs':=List.pairwise_cons.1 hxs
  have hno:iG (ltL l) done:=h.imp fun {a b} hab=>by
   unfold ltL
   rw[decide_eq_false_iff_not]
   rcases hab with h1|⟨h1,_⟩ <;> omega
  have e:=jT (ltL l) (fun a b c h1 h2=>by
   unfold ltL at h1 h2 ⊢
   rw[decide_eq_false_iff_not]at h1 h2 ⊢
   omega) x done.reverse [] (by rw[List.reverse_reverse];exact hno)
  rw[List.reverse_reverse,List.append_nil]at e
  simp only[co]
  rw[e]
  refine qP l xs _ ?_ ?_ hxs'.2
  ·rw[List.pairwise_append,List.pairwise_cons]
   refine⟨h.filter _,⟨fun b hb=>?_,h.filter _⟩,fun a ha b hb=>?_⟩
   ·have h1:ltL l x b=true:=by simpa using (List.mem_filter.1 hb).2
    exact .inl (by simpa[ltL]using h1)
   ·have h1:ltL l x a=false:=by simpa using (List.mem_filter.1 ha).2
    have h1':¬ dC l a<dC l x:=by simpa[ltL]using h1
    have hax:=hlt a (List.mem_filter.1 ha).1 x (by simp)
    rcases List.mem_cons.1 hb with rfl|hb
    ·by_cases h2:dC l b<dC l a
     ·exact .inl h2
     ·exact .inr ⟨by omega,hax⟩
    ·have h2:ltL l x b=true:=by simpa using (List.mem_filter.1 hb).2
     have h2':dC l b<dC l x:=by simpa[ltL]using h2
     exact .inl (by omega)
  ·intro a ha b hb
   rcases List.mem_append.1 ha with ha|ha
   ·exact hlt a (List.mem_filter.1 ha).1 b (by simp[hb])
   ·rcases List.mem_cons.1 ha with rfl|ha
    ·exact hxs'.1 b hb
    ·exact hlt a (List.mem_filter.1 ha).1 b (by simp[hb])
theorem nZ (l:List aE):(bm l).Pairwise (lt2 l):=qP l _ [] List.Pairwise.nil (by simp) (gW _)
theorem kI (l:List aE):(bm l).Perm (b7 l.length):=by
 unfold bm
 simpa using kF (ltL l) (b7 l.length) []
theorem gA {l:List aE}{i:Int}:i∈bm l↔0≤i∧i<l.length:=by rw[(kI l).mem_iff,gi]
theorem uG (l:List aE):(bm l).length=l.length:=by rw[(kI l).length_eq];simp[b7]
theorem sb (l:List aE):(bm l).Nodup:=(kI l).nodup_iff.2 ((gW _).imp fun h=>by omega)
def cQ (T:List Int)(n:Nat):List Bool:=(b7 n).map fun i=>decide (i∈T)
theorem ew (T:List Int)(n:Nat):(cQ T n).length=n:=by simp[cQ,b7]
theorem gB (T:List Int){n i:Nat}(h:i<n):(cQ T n)[i]'(by rw[ew];exact h)=decide ((i:Int)∈T):=by
 simp[cQ,b7]
theorem uH {T:List Int}{n b:Nat}(hb:b<n):(cQ T n).set b true=cQ (T++[(b:Int)]) n:=by
 refine List.ext_getElem (by rw[List.length_set,ew,ew]) fun i h1 h2=>?_
 rw[ew]at h2
 rw[List.getElem_set,gB _ h2]
 by_cases h:b=i
 ·subst h
  rw[if_pos rfl,gB _ h2]
  simp
 ·rw[if_neg h,gB _ h2]
  have:¬ (i:Int)=(b:Int):=by omega
  simp[this]
def n3 (l:List aE)(T:List Int)(i:Nat)(best:Int):Prop :=
 (best=-1∧∀ j:Nat,j<i→(j:Int)∈T)∨(0≤best∧best<i∧best∉T∧∀ j:Nat,j<i→(j:Int)∉T→(j:Int)≠best→lt2 l best (j:Int))
theorem wN (K:Nat)(l:List aE)(T:List Int)(hl:l.length≤1048576):∀ (d i k:Nat) (best:Int),i+d=l.length→d<k→n3 l T i best →
  ∃ b:Int,ac (fun rec a=>Q95.l0.step K (l,cQ T l.length,()) rec a) k (best,(i:Int))=some ((b,()),())∧n3 l T l.length b:=by
 intro d
 induction d with
 |zero =>
  intro i k best hi hk hb
  obtain⟨k,rfl⟩:∃ k',k=k'+1:=⟨k-1,by omega⟩
  have:i=l.length:=by omega
  subst this
  refine⟨best,?_,hb⟩
  show Q95.l0.step K (l,cQ T l.length,()) _ _=_
  simp only[Q95.l0.step,aI]
  rfl
 |succ d ih =>
  intro i k best hi hk hb
  obtain⟨k,rfl⟩:∃ k',k=k'+1:=⟨k-1,by omega⟩
  have hlt:i<l.length:=by omega
  have ih':∀ best,n3 l T (i+1) best→∃ b:Int,ac (fun rec a=>Q95.l0.step K (l,cQ T l.length,()) rec a) k (best,((i+1:Nat):Int))=some ((b,()),())∧n3 l T l.length b:=fun best h=>ih (i+1) k best (by omega) (by omega) h
  show ∃ b:Int,Q95.l0.step K (l,cQ T l.length,()) (ac (fun rec a=>Q95.l0.step K (l,cQ T l.length,()) rec a) k) (best,(i:Int))=_∧_
  generalize ac (fun rec a=>Q95.l0.step K (l,cQ T l.length,()) rec a) k=REC at ih' ⊢
  simp only[Q95.l0.step]
  rw[bj (by omega:(i:Int)<(List.length l:Int)),ag (show i<(cQ T l.length).length by rw[ew];exact hlt),gB T hlt,aq i (by omega)]
  simp only[cond_true,Option.bind_some]
  by_cases ht:(i:Int)∈T
  ·rw[decide_eq_true ht]
   simp only[Bool.not_true,cond_false]
   refine ih' best ?_
   rcases hb with ⟨rfl,h⟩|⟨h0,h1,h2,h3⟩
   ·refine .inl ⟨rfl,fun j hj=>?_⟩
    by_cases hji:j=i
    ·subst hji;exact ht
    ·exact h j (by omega)
   ·refine .inr ⟨h0,by omega,h2,fun j hj hjt hne=>?_⟩
    by_cases hji:j=i
    ·subst hji;exact absurd ht hjt
    ·exact h3 j (by omega) hjt hne
  ·rw[decide_eq_false ht]
   simp only[Bool.not_false,cond_true]
   rcases hb with ⟨rfl,h⟩|⟨h0,h1,h2,h3⟩
   ·rw[show decide ((-1:Int)<0)=true from rfl]
    refine ih' (i:Int) (.inr ⟨by omega,by omega,ht,fun j hj hjt hne=>?_⟩)
    exact absurd (h j (by omega)) hjt
   ·rw[decide_eq_false (by omega:¬ best<0)]
    obtain⟨b,rfl⟩:=Int.eq_ofNat_of_zero_le h0
    have hbl:b<l.length:=by omega
    simp only[cond_false]
    rw[ag hlt,ag hbl]
    simp only[Option.bind_some]
    by_cases hgt:l[i].2>l[b].2
    ·rw[decide_eq_true hgt]
     refine ih' (i:Int) (.inr ⟨by omega,by omega,ht,fun j hj hjt hne=>?_⟩)
     have hji:j<i:=by omega
     have hjl:j<l.length:=by omega
     by_cases hjb:(j:Int)=(b:Int)
     ·rw[hjb]
      exact .inl (by rw[dj hlt,dj hbl];exact hgt)
     ·have:=h3 j hji hjt hjb
      rcases this with h4|⟨h4,_⟩
      ·exact .inl (by rw[dj hbl]at h4;rw[dj hlt];omega)
      ·exact .inl (by rw[dj hbl]at h4;rw[dj hlt];omega)
    ·rw[decide_eq_false hgt]
     refine ih' (b:Int) (.inr ⟨by omega,by omega,h2,fun j hj hjt hne=>?_⟩)
     by_cases hji:j=i
     ·subst hji
      by_cases heq:dC l (b:Int)=dC l (j:Int)
      ·exact .inr ⟨heq,h1⟩
      ·refine .inl ?_
       rw[dj hlt,dj hbl]at *
       omega
     ·exact h3 j (by omega) hjt hne
theorem xn (K:Nat)(l:List aE)(n:Nat)(hl:l.length≤1048576)(hK:1048577<K):Q95.f K (l,cQ ((bm l).take n) l.length,())=some ((((bm l)[n]?).getD (-1),()),()):=by
  obtain⟨b,e,hb⟩:=wN K l ((bm l).take n) hl l.length 0 K (-1) (by omega) (by omega) (.inl ⟨rfl,fun j hj=>by omega⟩)
  have:b=((bm l)[n]?).getD (-1):=by
    by_cases hn:n<(bm l).length
    · rw[List.getElem?_eq_getElem hn]
      show b=(bm l)[n]
      have hm:(bm l)[n]∉(bm l).take n:=fun h=>by
        obtain⟨j,hj,e⟩:=List.getElem_of_mem h
        rw[List.length_take]at hj
        rw[List.getElem_take]at e
        have:=List.pairwise_iff_getElem.1 (nZ l) j n (by omega) hn (by omega)
        rw[e]at this
        rcases this with h5|⟨_,h5⟩ <;> omega
      have hr:=gA.1 (List.getElem_mem hn)
      obtain⟨m,hm'⟩:=Int.eq_ofNat_of_zero_le hr.1
      rcases hb with ⟨rfl,h⟩|⟨h0,h1,h2,h3⟩
      · have:=h m (by omega)
        rw[← hm']at this
        exact absurd this hm
      · by_cases he:b=(bm l)[n]
        · exact he
        · exfalso
          have h4:=h3 m (by omega) (by rw[← hm'];exact hm) (by rw[← hm'];exact fun h=>he h.symm)
          rw[← hm']at h4
          have hbo:b∈bm l:=gA.2 ⟨h0,h1⟩
          obtain⟨j,hj,ej⟩:=List.getElem_of_mem hbo
          have hjn:n<j:=by
            rcases Nat.lt_trichotomy j n with h|h|h
            · exact absurd (List.mem_take_iff_getElem.2 ⟨j,by omega,ej⟩) h2
            · subst h;exact absurd ej.symm he
            · exact h
          have h5:=List.pairwise_iff_getElem.1 (nZ l) n j hn hj hjn
          rw[ej]at h5
          rcases h4 with h4|⟨h4,h6⟩ <;> rcases h5 with h5|⟨h5,h7⟩ <;> omega
    · rw[List.getElem?_eq_none (by omega)]
      show b=-1
      rcases hb with ⟨rfl,_⟩|⟨h0,h1,h2,_⟩
      · rfl
      · exfalso
        rw[List.take_of_length_le (by omega)]at h2
        exact h2 (gA.2 ⟨h0,h1⟩)
  rw[← this]
  exact e
def bJ (l:List aE):List Int:=(bm l).take 3
def fD (l:List aE)(i:Int):aE:=(l[i.toNat]?).getD ((0,0,0,false),0)
def dt (l:List aE)(T:List Int)(i:Int):aE:=bif decide (i∈T) then ((fD l i).1,(fD l i).2-1) else fD l i
def dK (l:List aE)(T:List Int)(n:Nat):List ao:=((b7 n).filter fun i=>decide (i∈T)).map fun i=>(fD l i).1
def fg (l:List aE)(T:List Int)(n:Nat):List aE:=(b7 n).map (dt l T)
def du (l:List aE)(T:List Int)(n:Nat):List aE:=(fg l T n).filter fun x=>decide (x.2>0)
theorem cj {l:List aE}{i:Nat}(h:i<l.length):fD l (i:Int)=l[i]:=by
 unfold fD
 rw[Int.toNat_natCast,List.getElem?_eq_getElem h]
 rfl
theorem ly (n:Nat):b7 (n+1)=b7 n++[(n:Int)]:=by
 unfold b7
 rw[List.range_succ,List.map_append]
 rfl
theorem tx (l:List aE)(T:List Int)(n:Nat):dK l T (n+1)=dK l T n++(bif decide ((n:Int)∈T) then [(fD l (n:Int)).1] else []):=by
 unfold dK
 rw[ly,List.filter_append,List.map_append,List.filter_cons]
 cases decide ((n:Int)∈T) <;> rfl
theorem tz (l:List aE)(T:List Int)(n:Nat):du l T (n+1)=du l T n++(bif decide ((dt l T (n:Int)).2>0) then [dt l T (n:Int)] else []):=by
 unfold du fg
 rw[ly,List.map_append,List.filter_append,List.map_cons,List.filter_cons]
 cases decide ((dt l T (n:Int)).2>0) <;> rfl
theorem uI (l:List aE)(T:List Int)(n:Nat):(dK l T n).length≤n:=by
 unfold dK
 rw[List.length_map]
 refine Nat.le_trans (List.length_filter_le _ _) ?_
 simp[b7]
theorem uJ (l:List aE)(T:List Int)(n:Nat):(du l T n).length≤n:=by
 unfold du
 refine Nat.le_trans (List.length_filter_le _ _) ?_
 simp[fg,b7]
theorem wO (K:Nat)(l:List aE)(m:Int)(T:List Int)(hl:l.length≤1048576)(hC:cH l)(hK:1048577<K) :
  Q96.l1 K (l,m,()) (cQ T l.length,[],[],0)=some ((dK l T l.length,du l T l.length,()),()):=by
 refine eh (step:=fun rec a=>Q96.l1.step K (l,m,()) rec a) l.length (fun i=>(cQ T l.length,dK l T i,du l T i,(i:Int))) (some ((dK l T l.length,du l T l.length,()),())) ?_ ?_ (by omega)
 ·intro rec i hi
  simp only[Q96.l1.step]
  have hi':i<(cQ T l.length).length:=by rw[ew];exact hi
  have h1:=uI l T i
  have h2:=uJ l T i
  obtain⟨c0,c1⟩:=(hC.1 l[i] (List.getElem_mem hi)).2
  rw[bj (by omega:(i:Int)<(List.length l:Int)),ag hi,ag hi',aq i (by omega),Int.toNat_natCast,ag hi',gB T hi,tx,tz,cj hi]
  simp only[cond_true,Option.bind_some]
  cases hT:decide ((i:Int)∈T) with
  |true =>
   have hd:dt l T (i:Int)=(l[i].1,l[i].2-1):=by unfold dt;rw[hT,cj hi];rfl
   rw[hd]
   simp only[cond_true]
   rw[szb _ _ _ (by omega) (by simp;omega),cM (n:=l[i].2-1) (by omega) (by omega)]
   simp only[cond_true]
   cases decide (l[i].2-1>0) with
   |true =>
    simp only[cond_true]
    rw[szb _ _ _ (by omega) (by simp;omega)]
    rfl
   |false =>
    simp only[cond_false,List.append_nil]
  |false =>
   have hd:dt l T (i:Int)=l[i]:=by unfold dt;rw[hT,cj hi];rfl
   rw[hd]
   simp only[cond_false,List.append_nil]
   cases decide (l[i].2>0) with
   |true =>
    simp only[cond_true]
    rw[szb _ _ _ (by omega) (by simp;omega)]
    rfl
   |false =>
    simp only[cond_false,List.append_nil]
 ·intro rec
  simp only[Q96.l1.step,aI]
  rfl
theorem xo (K:Nat)(l:List aE)(hl:l.length≤1048576)(hC:cH l)(hK:1048577<K):Q96.f K (l,3,())=some ((dK l (bJ l) l.length,du l (bJ l) l.length,()),()):=by
 have hdone:∀ T,Q96.l1 K (l,3,()) (cQ T l.length,[],[],0)=some ((dK l T l.length,du l T l.length,()),()):=fun T=>wO K l 3 T hl hC hK
 have go:∀ (d n k:Nat),n+d=3→d<k→ac (fun rec a=>Q96.l0.step K (l,3,()) (Q96.l1 K (l,3,())) rec a) k (cQ ((bm l).take n) l.length,(n:Int))=some ((dK l (bJ l) l.length,du l (bJ l) l.length,()),()):=by
  intro d
  induction d with
  |zero =>
   intro n k hn hk
   obtain⟨k,rfl⟩:∃ k',k=k'+1:=⟨k-1,by omega⟩
   have:n=3:=by omega
   subst this
   exact hdone _
  |succ d ih =>
   intro n k hn hk
   obtain⟨k,rfl⟩:∃ k',k=k'+1:=⟨k-1,by omega⟩
   have ih':=ih (n+1) k (by omega) (by omega)
   show Q96.l0.step K (l,3,()) (Q96.l1 K (l,3,())) (ac (fun rec a=>Q96.l0.step K (l,3,()) (Q96.l1 K (l,3,())) rec a) k) (cQ ((bm l).take n) l.length,(n:Int))=_
   generalize ac (fun rec a=>Q96.l0.step K (l,3,()) (Q96.l1 K (l,3,())) rec a) k=REC at ih' ⊢
   simp only[Q96.l0.step]
   rw[decide_eq_true (by omega:(n:Int)<3),xn K l n hl hK,aq n (by omega)]
   simp only[cond_true,Option.bind_some]
   by_cases hlen:n<(bm l).length
   ·rw[List.getElem?_eq_getElem hlen]
    have hr:=gA.1 (List.getElem_mem hlen)
    have htk:(bm l).take (n+1)=(bm l).take n++[(bm l)[n]]:=List.take_succ_eq_append_getElem hlen
    rw[htk]at ih'
    simp only[Option.getD_some]
    generalize (bm l)[n]=v at hr ih' ⊢
    obtain⟨b,rfl⟩:=Int.eq_ofNat_of_zero_le hr.1
    have hb:b<l.length:=by omega
    have hb':b<(cQ ((bm l).take n) l.length).length:=by rw[ew];exact hb
    rw[decide_eq_false (by omega:¬ (b:Int)<0),ag hb',Int.toNat_natCast,ag hb',uH hb]
    exact ih'
   ·rw[List.getElem?_eq_none (by omega)]
    show Q96.l1 K (l,3,()) (cQ ((bm l).take n) l.length,[],[],0)=_
    rw[hdone,show (bm l).take n=bJ l by unfold bJ;rw[List.take_of_length_le (by omega),List.take_of_length_le (by omega)]]
 simp only[Q96.f,Q96.pre]
 rw[decide_eq_true (by omega:(0:Int)≤(List.length l:Int)),show decide ((List.length l:Int)*(1:Nat)≤an)=true from decide_eq_true (by simp only[an];omega),Int.toNat_natCast]
 simp only[decide_true,Bool.and_self,cond_true]
 have h0:List.replicate l.length false=cQ ((bm l).take 0) l.length:=by
  refine List.ext_getElem (by rw[List.length_replicate,ew]) fun i h1 h2=>?_
  rw[ew]at h2
  rw[List.getElem_replicate,gB _ h2]
  simp
 have:=go 3 0 K (by omega) (by omega)
 rw[← h0]at this
 exact this
theorem pO {a b:List Int}(ha:a.Nodup)(hb:b.Nodup)(h:∀ x,x∈a↔x∈b):a.Perm b:=by
 rw[List.perm_iff_count]
 intro x
 rw[ha.count,hb.count]
 simp[h]
def ct (l:List aE):List Int:=(b7 l.length).filter fun i=>decide (i∈bJ l)
theorem sd (l:List aE):co ltZ [] (bJ l)=ct l:=by
 have h1:(bJ l).Nodup:=(sb l).sublist (List.take_sublist _ _)
 have h2:((b7 l.length).filter fun i=>decide (i∈bJ l)).Nodup:=((gW l.length).imp (fun h=>by omega:∀ {a b:Int},a<b→a≠b)).filter _
 refine mE ltZ ?_ (lu ltZ (fun a b c h1 h2=>by
  unfold ltZ at h1 h2 ⊢
  rw[decide_eq_false_iff_not]at h1 h2 ⊢
  omega) (fun a b h=>by
  unfold ltZ at h ⊢
  rw[decide_eq_true_eq]at h
  rw[decide_eq_false_iff_not]
  omega) (bJ l) [] List.Pairwise.nil) ?_
 ·refine (by simpa using kF ltZ (bJ l) []:(co ltZ [] (bJ l)).Perm (bJ l)).trans (pO h1 h2 fun x=>?_)
  rw[ct,List.mem_filter,decide_eq_true_eq,gi]
  exact⟨fun h=>⟨gA.1 (List.mem_of_mem_take h),h⟩,fun h=>h.2⟩
 ·exact ((gW l.length).filter _).imp fun h=>by unfold ltZ;exact decide_eq_true h
theorem uK {l:List aE}{i:Int}:i∈ct l↔i∈bJ l:=by
 unfold ct
 rw[List.mem_filter,decide_eq_true_eq,gi]
 exact⟨fun h=>h.2,fun h=>⟨gA.1 (List.mem_of_mem_take h),h⟩⟩
theorem uL (l:List aE):(ct l).Pairwise (·<·):=(gW l.length).filter _
theorem eE (l:List aE)(T:List Int)(n:Nat):(fg l T n).length=n:=by simp[fg,b7]
theorem eY (l:List aE)(T:List Int){n i:Nat}(h:i<n):(fg l T n)[i]'(by rw[eE];exact h)=dt l T (i:Int):=by
 simp[fg,b7]
theorem vP (l:List aE):fg l [] l.length=l:=by
 refine List.ext_getElem (eE _ _ _) fun i h1 h2=>?_
 rw[eY l [] h2]
 unfold dt
 rw[cj h2]
 simp
theorem vQ {l:List aE}{T:List Int}{b:Nat}(hb:b<l.length):(fg l T l.length).set b ((fD l (b:Int)).1,(fD l (b:Int)).2-1)=fg l (T++[(b:Int)]) l.length:=by
 refine List.ext_getElem (by rw[List.length_set,eE,eE]) fun i h1 h2=>?_
 rw[eE]at h2
 rw[List.getElem_set,eY _ _ h2]
 by_cases h:b=i
 ·subst h
  rw[if_pos rfl,eY _ _ h2]
  unfold dt
  rw[decide_eq_true (by simp:(b:Int)∈T++[(b:Int)])]
  rfl
 ·rw[if_neg h,eY _ _ h2]
  unfold dt
  have:((i:Int)∈T++[(b:Int)])↔(i:Int)∈T:=by
   rw[List.mem_append,List.mem_singleton]
   exact⟨fun h1=>h1.resolve_right (by omega),.inl⟩
  rw[show decide ((i:Int)∈T++[(b:Int)])=decide ((i:Int)∈T) by rw[decide_eq_decide];exact this]
theorem tA {l:List aE}{T T':List Int}(h:∀ i,i∈T↔i∈T')(n:Nat):fg l T n=fg l T' n:=by
 unfold fg
 refine List.map_congr_left fun i _=>?_
 unfold dt
 rw[show decide (i∈T)=decide (i∈T') by rw[decide_eq_decide];exact h i]
theorem se (K:Nat)(x:aa Q178.ps)(l:List aE)(hl:l.length≤1048576)(hC:cH l)(hK:1048577<K) :
  Q178.l1 K x (l,ct l,[],(List.length (ct l):Int),0)=some ((dK l (bJ l) l.length,du l (bJ l) l.length,()),()):=by
 have htl:(ct l).length≤l.length:=by
  refine Nat.le_trans (List.length_filter_le _ _) ?_
  simp[b7]
 refine Eq.trans ?_ (eh (step:=fun rec a=>Q178.l1.step K x rec a) (ct l).length (fun i=>(fg l ((ct l).take i) l.length,ct l,((ct l).take i).map (fun j=>(fD l j).1),(List.length (ct l):Int),(i:Int))) (some ((dK l (bJ l) l.length,du l (bJ l) l.length,()),())) ?_ ?_ (by omega:(ct l).length<K))
 ·simp only[List.take_zero,List.map_nil,vP]
  rfl
 ·intro rec i hi
  simp only[Q178.l1.step]
  have hr:=gi.1 ((List.mem_filter.1 (List.getElem_mem hi)).1)
  have hnot:(ct l)[i]∉(ct l).take i:=fun h=>by
   obtain⟨j,hj,e⟩:=List.getElem_of_mem h
   rw[List.length_take]at hj
   rw[List.getElem_take]at e
   have:=List.pairwise_iff_getElem.1 (uL l) j i (by omega) hi (by omega)
   omega
  have htk:(ct l).take (i+1)=(ct l).take i++[(ct l)[i]]:=List.take_succ_eq_append_getElem hi
  rw[htk,List.map_append]
  have hlen:(((ct l).take i).map (fun j=>(fD l j).1)).length≤1048576:=by rw[List.length_map,List.length_take];omega
  rw[bj (by omega:(i:Int)<(List.length (ct l):Int)),ag hi,aq i (by omega),Int.toNat_natCast,ag hi]
  simp only[cond_true,Option.bind_some]
  generalize (ct l)[i]=v at hr hnot ⊢
  obtain⟨b,rfl⟩:=Int.eq_ofNat_of_zero_le hr.1
  have hb:b<l.length:=by omega
  have hb':b<(fg l ((ct l).take i) l.length).length:=by rw[eE];exact hb
  have hd:dt l ((ct l).take i) (b:Int)=l[b]:=by
   unfold dt
   rw[decide_eq_false hnot,cj hb]
   rfl
  obtain⟨c0,c1⟩:=(hC.1 l[b] (List.getElem_mem hb)).2
  rw[ag hb',Int.toNat_natCast,ag hb',eY l _ hb,hd]
  simp only[Option.bind_some]
  rw[szb _ _ _ (by omega) (by simp only[List.length_map,List.length_cons,List.length_nil]at hlen ⊢;omega),cM (n:=l[b].2-1) (by omega) (by omega),← vQ hb,cj hb]
  simp only[cond_true,List.map_cons,List.map_nil,cj hb]
 ·intro rec
  simp only[Q178.l1.step,aI,cond_false,List.take_length,Q9.f]
  have e:∀ xs:List aE,xs.length≤1048576→fP t3 xs (fun y17=>(Q177.f K (y17.1,())).map fun y=>y.1.1)=some ((xs.filter (fun x=>!(x.2==0)),()),()):=fun xs hxs=>pd (e:=t3) (fun x=>x.2==0) hxs (fun x _=>rfl)
  rw[e _ (by rw[eE];exact hl)]
  simp only[Option.bind_some]
  rw[tA (l:=l) (T:=ct l) (T':=bJ l) (fun i=>uK) l.length]
  have ef:(fg l (bJ l) l.length).filter (fun x=>!(x.2==0))=du l (bJ l) l.length:=by
   unfold du
   refine List.filter_congr fun x hx=>?_
   have h0:0≤x.2:=by
    obtain⟨i,hi,rfl⟩:=List.getElem_of_mem hx
    rw[eE]at hi
    rw[eY l _ hi]
    obtain⟨c0,c1⟩:=(hC.1 l[i] (List.getElem_mem hi)).2
    unfold dt
    rw[cj hi]
    cases decide ((i:Int)∈bJ l) with
    |true=>show 0≤l[i].2-1;omega
    |false=>show 0≤l[i].2;omega
   rw[Bool.eq_iff_iff]
   simp
   omega
  rw[ef]
  rfl
theorem tB (K:Nat)(l:List aE)(hl:l.length≤8)(hC:cH l)(hK:1048577<K):Q178.f K (l,3,())=some ((dK l (bJ l) l.length,du l (bJ l) l.length,()),()):=by
 simp only[Q178.f,Q178.pre]
 obtain⟨b1,e1,e2⟩:=ne K l (by omega) hK
 have hb1:=e2.2 hC
 subst hb1
 rw[e1]
 simp only[Option.bind_some,Bool.not_true,cond_false]
 rw[decide_eq_true (by omega:(0:Int)≤(List.length l:Int)),show decide ((List.length l:Int)*(8:Nat)≤an)=true from decide_eq_true (by simp only[an];omega),Int.toNat_natCast]
 simp only[decide_true,Bool.and_self,cond_true]
 have hil:(b7 l.length).length=l.length:=by simp[b7]
 have hS:∀ i,i≤l.length→(b7 i++List.replicate (l.length-i) (0:Int)).length=l.length:=fun i hi=>by simp[b7];omega
 refine Eq.trans ?_ (eh (step:=fun rec a=>Q178.l0.step K (l,3,()) (Q178.l1 K (l,3,())) rec a) l.length (fun i=>(b7 i++List.replicate (l.length-i) (0:Int),(i:Int))) (some ((dK l (bJ l) l.length,du l (bJ l) l.length,()),())) ?_ ?_ (by omega:l.length<K))
 ·rfl
 ·intro rec i hi
  simp only[Q178.l0.step]
  have hi':i<(b7 i++List.replicate (l.length-i) (0:Int)).length:=by rw[hS i (by omega)];exact hi
  rw[decide_eq_true (by rw[List.length_replicate];show (i:Int)<((Int.toNat (List.length l:Int):Nat):Int);omega),ag hi',aq i (by omega),Int.toNat_natCast,ag hi']
  simp only[cond_true,Option.bind_some]
  have e:(b7 i++List.replicate (l.length-i) (0:Int)).set i (i:Int)=b7 (i+1)++List.replicate (l.length-(i+1)) (0:Int):=by
   obtain⟨m,hm⟩:∃ m,l.length-i=m+1:=⟨l.length-i-1,by omega⟩
   have hii:(b7 i).length=i:=by simp[b7]
   rw[hm,show l.length-(i+1)=m by omega,ly,List.set_append_right _ _ (by omega),hii,Nat.sub_self,List.replicate_succ,List.set_cons_zero,List.append_assoc]
   rfl
  rw[e]
 ·intro rec
  simp only[Q178.l0.step]
  rw[decide_eq_false (by rw[List.length_replicate];show ¬ (List.length l:Int)<((Int.toNat (List.length l:Int):Nat):Int);omega),Nat.sub_self,List.replicate_zero,List.append_nil]
  simp only[cond_false,Q2.f]
  have hsort:=vJ K (b7 l.length) (fun y4=>(Q166.f K (y4.1,y4.2.1,l,())).map fun y=>y.1.1) (ltL l) (fun i=>0≤i∧i<l.length) (fun y hy=>gi.1 hy) (fun y z hy hz=>by
   obtain⟨a,rfl⟩:=Int.eq_ofNat_of_zero_le hy.1
   obtain⟨b,rfl⟩:=Int.eq_ofNat_of_zero_le hz.1
   have ha:a<l.length:=by omega
   have hb:b<l.length:=by omega
   obtain⟨c0,c1⟩:=(hC.1 l[a] (List.getElem_mem ha)).2
   obtain⟨c2,c3⟩:=(hC.1 l[b] (List.getElem_mem hb)).2
   refine⟨l[b].2-l[a].2,?_,?_⟩
   ·simp only[Q166.f]
    rw[ag ha,ag hb]
    simp only[Option.bind_some]
    rw[cM (n:=l[b].2-l[a].2) (by omega) (by omega)]
    rfl
   ·unfold ltL
    rw[dj ha,dj hb,decide_eq_decide]
    omega) (by rw[hil];omega) hK
  rw[hsort]
  simp only[Option.bind_some]
  rw[dx (by omega)]
  simp only[Option.bind_some]
  rw[show Q156.f K (co (ltL l) [] (b7 l.length),3,())=some ((bJ l,()),()) from oH K (bm l) 3 (by rw[uG];omega)]
  simp only[Option.bind_some]
  rw[vL K (bJ l) (Nat.le_trans (List.length_take_le _ _) (by omega)) hK,sd]
  simp only[Option.bind_some]
  exact se K (l,3,()) l (by omega) hC hK
end Go.Proofs.YthgnfidnmnkeaaaGreatEv
namespace Go.Proofs.YthgnfidnmnkeaaaGreatEv
open Go
end Go.Proofs.YthgnfidnmnkeaaaGreatEv
namespace Go.Proofs.YthgnfidnmnkeaaaGreatEv
open Go
theorem put_o (K:Nat)(t:List ao)(f:ao)(ht:t.length≤1048576)(hA:Asc (fun g:ao=>g.1) t)(hK:1048577<K):Q94.f K (t,f,())=some (((cI t f).1,(cI t f).2,()),()):=by
 simp only[Q94.f,Q94.pre]
 obtain⟨o,ho,h1⟩:=e8 K t f.1 ht hK
 rw[h1]
 simp only[Option.bind_some]
 cases ho with
 |at_ i hi e =>
  simp only
  rw[nl hA hi e,decide_eq_true (by omega:((i:Nat):Int)≥0),ag hi]
  simp only[cond_true,Option.bind_some,Int.toNat_natCast,ag hi]
  rw[show Q73.f K (f,t[i],())=_ from qE K f t[i]]
  simp only[Option.bind_some]
  by_cases ho:de f t[i]
  ·rw[decide_eq_true ho,if_pos ho]
   simp only[Bool.not_true,cond_false]
   rw[szb _ _ _ (by omega) (by show (List.length ([]:List ao))+t.length≤_;simp;omega)]
   simp only[cond_true,List.nil_append,ag hi,Option.bind_some,Int.toNat_natCast]
   rw[kG (k:=fun g:ao=>g.1) hA hi e]
  ·rw[decide_eq_false ho,if_neg ho]
   rfl
 |no h =>
  simp only
  rw[nm h,decide_eq_false (by omega:¬ (-1:Int)≥0)]
  simp only[cond_false]
  have fit:∀ m:Nat,m≤t.length→(bif decide ((0:Int)≤0)&&decide ((0:Int)≤(m:Int))&&decide ((m:Int)≤(List.length t:Int))&&true then (bif decide ((List.length ([]:List ao)+List.length ((t.take (Int.toNat (m:Int))).drop (Int.toNat 0)))*32≤an) then (bif decide ((List.length ([]++((t.take (Int.toNat (m:Int))).drop (Int.toNat 0)))+List.length ([f]))*32≤an) then (bif decide ((0:Int)≤(m:Int))&&decide ((m:Int)≤(List.length t:Int))&&decide ((List.length t:Int)≤(List.length t:Int))&&true then (bif decide ((List.length (([]++((t.take (Int.toNat (m:Int))).drop (Int.toNat 0)))++([f]))+List.length ((t.take (Int.toNat (List.length t:Int))).drop (Int.toNat (m:Int))))*32≤an) then (some (((([]++((t.take (Int.toNat (m:Int))).drop (Int.toNat 0)))++([f]))++((t.take (Int.toNat (List.length t:Int))).drop (Int.toNat (m:Int))),true,()),())) else none) else none) else none) else none) else (none:Option ((List ao×Bool×Unit)×Unit)))=some ((t.take m++[f]++t.drop m,true,()),()):=by
   intro m hm
   rw[decide_eq_true (by omega:(0:Int)≤0),decide_eq_true (by omega:(0:Int)≤(m:Int)),decide_eq_true (by omega:(m:Int)≤(List.length t:Int)),decide_eq_true (by omega:(List.length t:Int)≤(List.length t:Int))]
   simp only[Int.toNat_natCast,Int.toNat_zero,List.drop_zero,List.nil_append,List.take_length,Bool.and_self,cond_true]
   have h1:(t.take m).length=m:=by rw[List.length_take];omega
   have h2:(t.drop m).length=t.length-m:=List.length_drop
   rw[szb _ _ _ (by omega) (by simp only[List.length_nil];omega),szb _ _ _ (by omega) (by simp only[List.length_cons,List.length_nil];omega),szb _ _ _ (by omega) (by simp only[List.length_append,List.length_cons,List.length_nil];omega)]
   rfl
  have:=cr (step:=fun rec a=>Q94.l0.step K (t,f,()) rec a) t.length (fun i=>(i:Int)) (fun j=>∃ h:j<t.length,¬ t[j].1<f.1) (some ((t.take t.length++[f]++t.drop t.length,true,()),())) (fun j=>some ((t.take j++[f]++t.drop j,true,()),())) ?_ ?_ t.length K 0 (by omega) (by omega)
  ·have fin:∀ m,m≤t.length→(∀ i,(hi:i<t.length)→i<m→t[i].1<f.1)→(∀ i,(hi:i<t.length)→m≤i→f.1<t[i].1)→t.take m++[f]++t.drop m=dJ (fun g=>g.1) f t:=fun m hm lo hi=>jm (k:=fun g:ao=>g.1) hm lo hi
   rcases this with ⟨h1,h2⟩|⟨j,_,h1,⟨h3,h4⟩,h5,h2⟩
   ·rw[fin t.length (Nat.le_refl _) (fun i hi _=>by
     have:=h1 i (Nat.zero_le _) hi
     exact Classical.not_not.1 fun h=>this ⟨hi,h⟩) (fun i hi h=>by omega)]at h2
    exact h2
   ·rw[fin j (by omega) (fun i hi hij=>by
     have:=h5 i (Nat.zero_le _) hij
     exact Classical.not_not.1 fun h=>this ⟨hi,h⟩) (fun i hi hij=>by
     have hne:=h t[i] (List.getElem_mem hi)
     rcases Nat.lt_or_eq_of_le hij with h6|h6
     ·have:=dr.1 hA j i h3 hi h6
      omega
     ·subst h6;omega)]at h2
    exact h2
  ·intro rec i hi
   simp only[Q94.l0.step]
   rw[bj (by omega:(i:Int)<(List.length t:Int)),ag hi,aq i (by omega)]
   simp only[cond_true,Option.bind_some]
   rw[show idx t ((Int.toNat (i:Int):Nat):Int)=some t[i] by rw[Int.toNat_natCast];exact ag hi]
   simp only[Option.bind_some]
   by_cases hlt:t[i].1<f.1
   ·exact .inl ⟨fun⟨_,h⟩=>h hlt,by rw[decide_eq_true hlt];rfl⟩
   ·exact .inr ⟨⟨hi,hlt⟩,by rw[decide_eq_false hlt];exact fit i (by omega)⟩
  ·intro rec
   simp only[Q94.l0.step,aI,cond_false]
   exact fit t.length (Nat.le_refl _)
theorem tlen {t:List ao}(h:aT t):t.length≤1048576:=Nat.le_trans (qH h.2 (fun g hg=>(h.1 g hg).1)) (by decide)
end Go.Proofs.YthgnfidnmnkeaaaGreatEv
namespace Go.Proofs.YthgnfidnmnkeaaaGreatEv
open Go
theorem nn {l:List aE}(hC:cH l)(T:List Int):aT (dK l T l.length):=by
 unfold dK
 constructor
 ·intro f hf
  obtain⟨i,hi,rfl⟩:=List.mem_map.1 hf
  obtain⟨h0,h1⟩:=gi.1 (List.mem_filter.1 hi).1
  obtain⟨b,rfl⟩:=Int.eq_ofNat_of_zero_le h0
  have hb:b<l.length:=by omega
  rw[cj hb]
  exact (hC.1 l[b] (List.getElem_mem hb)).1
 ·unfold Asc
  rw[List.pairwise_map]
  have hp:((b7 l.length).filter fun i=>decide (i∈T)).Pairwise fun (a b:Int)=>(0≤a∧a<l.length)∧(0≤b∧b<l.length)∧a<b:=by
   refine List.Pairwise.filter _ ?_
   have:∀ xs:List Int,(∀ x∈xs,0≤x∧x<l.length)→xs.Pairwise (·<·)→xs.Pairwise fun (a b:Int)=>(0≤a∧a<l.length)∧(0≤b∧b<l.length)∧a<b:=by
    intro xs hx hxs
    induction xs with
    |nil=>exact List.Pairwise.nil
    |cons x xs ih =>
     rw[List.pairwise_cons]at hxs ⊢
     exact⟨fun y hy=>⟨hx x (by simp),hx y (by simp[hy]),hxs.1 y hy⟩,ih (fun y hy=>hx y (by simp[hy])) hxs.2⟩
   exact this _ (fun x hx=>gi.1 hx) (gW _)
  refine hp.imp fun {a b} h=>?_
  obtain⟨⟨a0,a1⟩,⟨b0,b1⟩,hab⟩:=h
  obtain⟨i,rfl⟩:=Int.eq_ofNat_of_zero_le a0
  obtain⟨j,rfl⟩:=Int.eq_ofNat_of_zero_le b0
  have hi:i<l.length:=by omega
  have hj:j<l.length:=by omega
  rw[cj hi,cj hj]
  exact dr.1 hC.2 i j hi hj (by omega)
theorem vR {l:List aE}(hC:cH l)(T:List Int):cH (du l T l.length):=by
 have hkey:∀ i (h:i<l.length),(dt l T (i:Int)).1=l[i].1:=fun i h=>by
  unfold dt
  rw[cj h]
  cases decide ((i:Int)∈T) <;> rfl
 have hle:∀ i (h:i<l.length),(dt l T (i:Int)).2≤l[i].2:=fun i h=>by
  unfold dt
  rw[cj h]
  cases decide ((i:Int)∈T) with
  |true=>show l[i].2-1≤l[i].2;omega
  |false=>exact Int.le_refl _
 unfold du
 constructor
 ·intro x hx
  obtain⟨h1,h2⟩:=List.mem_filter.1 hx
  have h2:x.2>0:=by simpa using h2
  obtain⟨i,hi,rfl⟩:=List.getElem_of_mem h1
  rw[eE]at hi
  rw[eY l T hi]at h2 ⊢
  have:=(hC.1 l[i] (List.getElem_mem hi))
  refine⟨by rw[hkey i hi];exact this.1,?_,?_⟩
  ·omega
  ·have h3:=hle i hi
   have h4:=this.2.2
   omega
 ·unfold Asc
  refine List.Pairwise.filter _ ?_
  rw[List.pairwise_iff_getElem]
  intro i j hi hj hij
  rw[eE]at hi hj
  show (fg l T l.length)[i].1.1<(fg l T l.length)[j].1.1
  rw[eY l T hi,eY l T hj,hkey i hi,hkey j hj]
  exact dr.1 hC.2 i j hi hj hij
def jo (n:Node)(to:Int):List ao :=
 bif (a8 (Node.table n) to).2.2.1==2 then (cI (dK (Node.cast n) (bJ (Node.cast n)) (Node.cast n).length) (a8 (Node.table n) to)).1 else dK (Node.cast n) (bJ (Node.cast n)) (Node.cast n).length
def oK (n:Node):Node:=setN n (Node.table n) (du (Node.cast n) (bJ (Node.cast n)) (Node.cast n).length) (Node.doubts n)
theorem sL {n:Node}(h:cK n)(to:Int):aT (jo n to):=by
 have h1:=nn h.cast (bJ (Node.cast n))
 unfold jo
 cases hs:(a8 (Node.table n) to).2.2.1==2 with
 |false=>exact h1
 |true =>
  refine qI h1 (eS h.table ?_).1
  by_cases h2:∃ f∈Node.table n,f.1=to
  ·exact h2
  ·rw[iy (fun g hg e=>h2 ⟨g,hg,e⟩)]at hs
   simp at hs
theorem xp {n:Node}(h:cK n):cK (oK n):=cK.mk' h.table (vR h.cast _) h.asc h.inp
theorem clen {n:Node}(h:cK n):(Node.cast n).length≤8:=qH h.cast.2 (fun x hx=>(h.cast.1 x hx).1.1)
theorem wP (K:Nat)(n:Node)(to:Int)(h:cK n)(hK:1048577<K):Q97.f K (n,to,())=some ((jo n to,oK n,()),()):=by
 have hc:=clen h
 simp only[Q97.f]
 rw[show Q96.f K (n.2.2.2.2.2.2.2.2.2.1,3,())=_ from xo K (Node.cast n) (by omega) h.cast hK]
 simp only[Option.bind_some]
 obtain⟨o,ho,e1⟩:=e8 K (Node.table n) to h.lt hK
 rw[show Q71.f K (n.2.2.2.2.2.2.2.2.1,to,())=_ from e1]
 simp only[Option.bind_some,jo]
 have hF:=nn h.cast (bJ (Node.cast n))
 cases ho with
 |no hno =>
  rw[iy hno]
  rfl
 |at_ j hj e =>
  have hfa:a8 (Node.table n) to=(Node.table n)[j]:=by rw[← e];exact jF h.table.2 (List.getElem_mem hj)
  rw[hfa]
  simp only
  rw[decide_eq_true (by omega:((j:Nat):Int)≥0),show idx n.2.2.2.2.2.2.2.2.1 ((j:Nat):Int)=some (Node.table n)[j] from ag hj]
  simp only[cond_true,Option.bind_some]
  cases (Node.table n)[j].2.2.1==2 with
  |false=>rfl
  |true =>
   simp only[cond_true]
   rw[put_o K _ _ (tlen hF) hF.2 hK]
   rfl
theorem tC (K:Nat)(n:Node)(to:Int)(h:cK n)(hK:1048577<K):Q179.f K (n,to,())=some ((jo n to,()),(oK n,())):=by
 simp only[Q179.f]
 rw[show Q178.f K (n.2.2.2.2.2.2.2.2.2.1,3,())=_ from tB K (Node.cast n) (clen h) h.cast hK]
 simp only[Option.bind_some]
 obtain⟨b,hw⟩:=gJ K (Node.table n) to h.table h.lt hK
 rw[show Q123.f K (n.2.2.2.2.2.2.2.2.1,to,())=_ from hw]
 simp only[Option.bind_some,jo]
 have hF:=nn h.cast (bJ (Node.cast n))
 cases (a8 (Node.table n) to).2.2.1==2 with
 |false=>rfl
 |true =>
  simp only[cond_true]
  rw[wq K _ _ (tlen hF) hF.2 hK]
  rfl
def bw (n:Node)(k:Nat):Int:=Int.tmod (n.2.2.2.2.2.2.2.1+(k:Int)) 8
def kJ (n:Node)(k:Nat):Prop:=bw n k≠n.1∧dV (a8 (Node.table n) (bw n k))=true
def askN (n:Node)(to:Int):Node :=
 let m:=oK n
 (m.1,m.2.1,m.2.2.1,m.2.2.2.1,m.2.2.2.2.1,m.2.2.2.2.2.1,m.2.2.2.2.2.2.1+1,to+1,m.2.2.2.2.2.2.2.2.1,m.2.2.2.2.2.2.2.2.2.1,(to,m.2.2.2.2.2.1,m.2.2.2.2.2.2.1+1,false),m.2.2.2.2.2.2.2.2.2.2.2)
def tD (n:Node)(to:Int):bF:=(1,1,n.1,to,n.2.2.2.2.2.2.1+1,n.1,cA n,jo n to)
theorem vS (K:Nat)(n:Node)(h:cK n)(hp:(ae n).1=-1)(hs0:0≤n.2.2.2.2.2.2.1)(hs1:n.2.2.2.2.2.2.1≤1000000)(ht0:0≤n.2.2.2.2.2.2.2.1)(ht1:n.2.2.2.2.2.2.2.1≤8)(hK:1048577<K) :
  ∃ (y:Node) (ws:List bF),Q98.f K (n,())=some ((y,ws,()),())∧Q180.f K (n,())=some ((ws,()),(y,()))∧((y=n∧ws=[])∨∃ to,y=askN n to∧ws=[tD n to]):=by
 have hcand:∀ k:Nat,k<8→wr .i64 (n.2.2.2.2.2.2.2.1+(k:Int))=n.2.2.2.2.2.2.2.1+(k:Int):=fun k hk=>cM (by omega) (by omega)
 have hcr:∀ k:Nat,k<8→0≤bw n k∧bw n k<8:=fun k hk=>⟨Int.tmod_nonneg _ (by omega),Int.tmod_lt_of_pos _ (by omega)⟩
 have hs:∃ to:Int,Q93.f K (n,())=some ((to,()),())∧((to=-1∧∀ k,k<8→¬ kJ n k)∨∃ k,k<8∧kJ n k∧(∀ j,j<k→¬ kJ n j)∧to=bw n k):=by
  have:=cr (step:=fun rec a=>Q93.l0.step K (n,()) rec a) 8 (fun i=>(i:Int)) (kJ n) (some ((-1,()),())) (fun j=>some ((bw n j,()),())) ?_ ?_ 8 K 0 (by omega) (by omega)
  ·rcases this with ⟨h1,h2⟩|⟨j,_,h1,h3,h4,h2⟩
   ·exact⟨-1,h2,.inl ⟨rfl,fun k hk=>h1 k (Nat.zero_le _) hk⟩⟩
   ·exact⟨_,h2,.inr ⟨j,h1,h3,fun m hm=>h4 m (Nat.zero_le _) hm,rfl⟩⟩
  ·intro rec i hi
   simp only[Q93.l0.step]
   rw[decide_eq_true (by omega:(i:Int)≤7),hcand i hi,aq i (by omega)]
   simp only[cond_true]
   show (¬ kJ n i∧(bif bw n i != n.1 then ((Q90.f K (Node.table n,bw n i,())).bind fun y1=>bif y1.1.1 then (some ((bw n i,()),())) else (rec ((i+1:Nat):Int))) else (rec ((i+1:Nat):Int)))=rec ((i+1:Nat):Int))∨(kJ n i∧(bif bw n i != n.1 then ((Q90.f K (Node.table n,bw n i,())).bind fun y1=>bif y1.1.1 then (some ((bw n i,()),())) else (rec ((i+1:Nat):Int))) else (rec ((i+1:Nat):Int)))=some ((bw n i,()),()))
   rw[qN K (Node.table n) (bw n i) h.table h.lt hK]
   by_cases hme:bw n i=n.1
   ·exact .inl ⟨fun hc=>hc.1 hme,by rw[show (bw n i != n.1)=false by simpa using hme];rfl⟩
   ·rw[show (bw n i != n.1)=true by simpa using hme]
    cases hl:dV (a8 (Node.table n) (bw n i)) with
    |true=>exact .inr ⟨⟨hme,hl⟩,rfl⟩
    |false=>exact .inl ⟨fun hc=>(by rw[hc.2]at hl;cases hl),rfl⟩
  ·intro rec
   simp only[Q93.l0.step]
   rfl
 obtain⟨to,es,hto⟩:=hs
 simp only[Q98.f,Q180.f,Q180.pre]
 rw[es,show (n.2.2.2.2.2.2.2.2.2.2.1.1 != -1)=false by show ((ae n).1 != -1)=false;rw[hp];rfl]
 simp only[Option.bind_some,cond_false]
 by_cases hmax:n.2.2.2.2.2.2.1≥999999
 ·rw[decide_eq_true hmax]
  refine⟨n,[],?_,rfl,.inl ⟨rfl,rfl⟩⟩
  cases decide (to<0) <;> rfl
 ·rw[decide_eq_false hmax]
  simp only[cond_false]
  have hwr:wr .i64 (n.2.2.2.2.2.2.1+1)=n.2.2.2.2.2.2.1+1:=cM (by omega) (by omega)
  have hi:=cr (step:=fun rec a=>Q180.l0.step K (n,()) rec a) 8 (fun i=>(i:Int)) (kJ n) (some (([],()),(n,()))) (fun j=>some (([tD n (bw n j)],()),(askN n (bw n j),()))) ?_ ?_ 8 K 0 (by omega) (by omega)
  ·rcases hto with ⟨rfl,hno⟩|⟨k,hk,hkc,hkf,rfl⟩
   ·rcases hi with ⟨_,h2⟩|⟨j,_,h1,h3,_,_⟩
    ·exact⟨n,[],rfl,h2,.inl ⟨rfl,rfl⟩⟩
    ·exact absurd h3 (hno j h1)
   ·have hk0:=hcr k hk
    rcases hi with ⟨h1,_⟩|⟨j,_,h1,h3,h4,h2⟩
    ·exact absurd hkc (h1 k (Nat.zero_le _) hk)
    ·have:j=k:=by
      rcases Nat.lt_trichotomy j k with hh|hh|hh
      ·exact absurd h3 (hkf j hh)
      ·exact hh
      ·exact absurd hkc (h4 k (Nat.zero_le _) hh)
     subst this
     refine⟨askN n (bw n j),[tD n (bw n j)],?_,h2,.inr ⟨_,rfl,rfl⟩⟩
     rw[decide_eq_false (by omega:¬ bw n j<0)]
     simp only[cond_false]
     rw[wP K n _ h hK]
     simp only[Option.bind_some]
     rw[show wr .i64 ((oK n).2.2.2.2.2.2.1+1)=n.2.2.2.2.2.2.1+1 from hwr,cM (n:=bw n j+1) (by omega) (by omega)]
     simp only[Q89.f]
     rw[szb _ _ _ (by omega) (by have:=tlen (sL h (bw n j));simp;omega)]
     rfl
  ·intro rec i hi
   have hc:=hcr i hi
   simp only[Q180.l0.step]
   rw[decide_eq_true (by omega:(i:Int)<8),hcand i hi,aq i (by omega)]
   simp only[cond_true]
   have hlv:=qO K n (bw n i) h.table h.lt hK
   rw[show Int.tmod (n.2.2.2.2.2.2.2.1+(i:Int)) 8=bw n i from rfl]
   by_cases hme:bw n i=n.1
   ·exact .inl ⟨fun hc=>hc.1 hme,by rw[show (bw n i==n.1)=true by simpa using hme];rfl⟩
   ·rw[show (bw n i==n.1)=false by simpa using hme]
    simp only[cond_false]
    rw[hlv]
    simp only[Option.bind_some]
    cases hl:dV (a8 (Node.table n) (bw n i)) with
    |false=>exact .inl ⟨fun hc=>(by rw[hc.2]at hl;cases hl),rfl⟩
    |true =>
     refine .inr ⟨⟨hme,hl⟩,?_⟩
     simp only[Bool.not_true,cond_false]
     rw[tC K n _ h hK]
     simp only[Option.bind_some,Q160.f]
     rw[show wr .i64 ((oK n).2.2.2.2.2.2.1+1)=n.2.2.2.2.2.2.1+1 from hwr,cM (n:=bw n i+1) (by omega) (by omega)]
     rfl
  ·intro rec
   simp only[Q180.l0.step]
   rfl
end Go.Proofs.YthgnfidnmnkeaaaGreatEv
namespace Go.Proofs.YthgnfidnmnkeaaaGreatEv
open Go
end Go.Proofs.YthgnfidnmnkeaaaGreatEv
namespace Go.Proofs.YthgnfidnmnkeaaaGreatEv
open Go
end Go.Proofs.YthgnfidnmnkeaaaGreatEv
namespace Go.Proofs.YthgnfidnmnkeaaaGreatEv
open Go
end Go.Proofs.YthgnfidnmnkeaaaGreatEv
namespace Go.Proofs.YthgnfidnmnkeaaaGreatEv
open Go
theorem vT {n:Int}(h:InP n 0 7):aW n=n / 4:=by
 obtain⟨h1,h2⟩:=h
 unfold aW
 rw[Int.tdiv_eq_ediv_of_nonneg h1,cM (by omega) (by omega)]
theorem qQ {me:Int}{l:List bU}(hm:InP me 0 7)(h:iZ me l):l=[]∨∃ x,l=[x]:=by
 match l,h with
 |[],_=>exact .inl rfl
 |[x],_=>exact .inr ⟨x,rfl⟩
 |x::y::r,h =>
  exfalso
  have h1:=h.1 x (by simp)
  have h2:=h.1 y (by simp)
  have h3:x.1<y.1:=by
   have:=h.2
   unfold Asc at this
   rw[List.pairwise_cons]at this
   exact this.1 y (by simp)
  have e:=vT hm
  obtain⟨⟨a1,a2⟩,a3,_⟩:=h1
  obtain⟨⟨b1,b2⟩,b3,_⟩:=h2
  obtain⟨m1,m2⟩:=hm
  rw[e]at a3 b3
  omega
end Go.Proofs.YthgnfidnmnkeaaaGreatEv
namespace Go.Proofs.YthgnfidnmnkeaaaGreatEv
open Go
theorem qR {a:Int}{m:Nat}(hm:m<4611686018427387904):0≤aV .i64 a (m:Int)∧aV .i64 a (m:Int)≤m:=by
 have h:(BitVec.ofInt 64 a &&& BitVec.ofInt 64 (m:Int)).toNat≤m:=by
  rw[BitVec.toNat_and]
  refine Nat.le_trans Nat.and_le_right ?_
  rw[BitVec.toNat_ofInt]
  omega
 show 0≤IntKind.i64.wrap (((BitVec.ofInt 64 a &&& BitVec.ofInt 64 (m:Int)).toNat:Nat):Int)∧IntKind.i64.wrap (((BitVec.ofInt 64 a &&& BitVec.ofInt 64 (m:Int)).toNat:Nat):Int)≤m
 generalize (BitVec.ofInt 64 a &&& BitVec.ofInt 64 (m:Int)).toNat=r at h ⊢
 rw[IntKind.wrap_i64]
 omega
def gL (g:List Int)(d:Int):Int:=g.getD (Int.toNat (Int.tmod (aV .i64 d 255) (g.length:Int))) 0
theorem eZ {g:List Int}{d:Int}(h:g≠[]):idx g (Int.tmod (aV .i64 d 255) (g.length:Int))=some (gL g d)∧idx g ((Int.toNat (Int.tmod (aV .i64 d 255) (g.length:Int)):Nat):Int)=some (gL g d)∧gL g d∈g:=by
 have hl:0<g.length:=List.length_pos_iff.2 h
 have h0:=(qR (a:=d) (m:=255) (by omega)).1
 have h1:0≤Int.tmod (aV .i64 d 255) (g.length:Int):=Int.tmod_nonneg _ h0
 have h2:Int.tmod (aV .i64 d 255) (g.length:Int)<g.length:=Int.tmod_lt_of_pos _ (by omega)
 unfold gL
 obtain⟨v,hv⟩:=Int.eq_ofNat_of_zero_le h1
 rw[hv]at h2 ⊢
 have h3:v<g.length:=by omega
 rw[Int.toNat_natCast,ag h3,List.getD_eq_getElem?_getD,List.getElem?_eq_getElem h3]
 exact⟨rfl,rfl,List.getElem_mem h3⟩
def iR (n:Node)(site d:Int):Int :=
 bif decide (eq (er (Node.others n) site)≠[])&&aV .i64 d 4==0 then gL (eq (er (Node.others n) site)) (Int.fdiv d (2 ^ 3)) else site*4+aV .i64 (Int.fdiv d (2 ^ 3)) 3
structure gM (n:Node):Prop where
 short:(Node.others n).length≤1
 table:∀ x∈Node.others n,aT x.2∧x.2.length≤1048576
theorem uM {site d:Int}(h0:0≤site)(h1:site≤1):wr .i64 (wr .i64 (site*4)+aV .i64 (Int.fdiv d (2 ^ 3)) 3)=site*4+aV .i64 (Int.fdiv d (2 ^ 3)) 3:=by
 obtain⟨b0,b1⟩:=qR (a:=Int.fdiv d (2 ^ 3)) (m:=3) (by omega)
 have b0:0≤aV .i64 (Int.fdiv d (2 ^ 3)) 3:=b0
 have b1:aV .i64 (Int.fdiv d (2 ^ 3)) 3≤3:=b1
 rw[cM (n:=site*4) (by omega) (by omega),cM (by omega) (by omega)]
theorem far_s (K:Nat)(n:Node)(site d:Int)(h:gM n)(h0:0≤site)(h1:site≤1)(hK:1048577<K):Q102.f K (n,site,d,())=some ((iR n site d,()),()):=by
 obtain⟨k,rfl⟩:∃ k,K=k+2:=⟨K-2,by omega⟩
 show Q102.l0.step (k+2) (n,site,d,()) (ac (fun rec a=>Q102.l0.step (k+2) (n,site,d,()) rec a) (k+1)) 0=_
 have hend:∀ (rec:Int→Option ((Int×Unit)×Unit)) (a:Int),¬ a<(Node.others n).length→Q102.l0.step (k+2) (n,site,d,()) rec a=some ((site*4+aV .i64 (Int.fdiv d (2 ^ 3)) 3,()),()):=by
  intro rec a ha
  simp only[Q102.l0.step]
  rw[show decide (a<(List.length n.2.2.2.2.2.2.2.2.2.2.2.2.2.2:Int))=false from decide_eq_false ha,uM h0 h1]
  rfl
 match ho:Node.others n with
 |[] =>
  rw[hend _ _ (by rw[ho];simp),iR,ho]
  rfl
 |[x] =>
  have hx:=h.table x (by rw[ho];simp)
  have hrest:ac (fun rec a=>Q102.l0.step (k+2) (n,site,d,()) rec a) (k+1) 1=some ((site*4+aV .i64 (Int.fdiv d (2 ^ 3)) 3,()),()):=hend _ _ (by rw[ho];simp)
  generalize ac (fun rec a=>Q102.l0.step (k+2) (n,site,d,()) rec a) (k+1)=rec at hrest ⊢
  simp only[Q102.l0.step]
  rw[show decide ((0:Int)<(List.length n.2.2.2.2.2.2.2.2.2.2.2.2.2.2:Int))=true from decide_eq_true (by show (0:Int)<((Node.others n).length:Int);rw[ho];simp),show idx n.2.2.2.2.2.2.2.2.2.2.2.2.2.2 (0:Int)=some x by show idx (Node.others n) (0:Int)=some x;rw[ho];rfl,show wr .i64 ((0:Int)+1)=1 from rfl]
  simp only[cond_true,Option.bind_some,hrest]
  rw[iR,ho]
  cases hs:x.1==site with
  |false =>
   simp only[cond_false,er,List.find?_cons,hs,List.find?_nil]
   rfl
  |true =>
   simp only[cond_true,er,List.find?_cons,hs,Option.map_some,Option.getD_some]
   rw[sC (k+2) x.2 hx.2 hK]
   simp only[Option.bind_some]
   by_cases hg:eq x.2=[]
   ·rw[hg]
    rfl
   ·have hl:0<(eq x.2).length:=List.length_pos_iff.2 hg
    rw[decide_eq_true hg,decide_eq_true (by omega:((eq x.2).length:Int)>0)]
    simp only[cond_true,Bool.true_and]
    cases aV .i64 d 4==0 with
    |false=>rfl
    |true =>
     simp only[cond_true]
     rw[decide_eq_false (by omega:¬ ((eq x.2).length:Int)=0),(eZ hg).1,(eZ hg).2.1]
     rfl
 |_::_::_=>exact absurd h.short (by rw[ho];simp)
def gX (n:Node):Bool:=decide (n.1∈eq (Node.table n))
theorem vU (K:Nat)(n:Node)(ht:(Node.table n).length≤1048576)(hK:1048577<K):Q101.f K (n,())=rb (gX n):=by
 simp only[Q101.f,Q101.pre]
 rw[show Q100.f K (n.2.2.2.2.2.2.2.2.1,2,())=_ from sC K (Node.table n) ht hK]
 simp only[Option.bind_some]
 have hl:=pa (Node.table n)
 unfold gX
 generalize eq (Node.table n)=g at hl ⊢
 have:=cr (step:=fun rec a=>Q101.l0.step K (n,()) rec a) g.length (fun i=>(g,(i:Int))) (fun j=>∃ h:j<g.length,g[j]=n.1) (rb false) (fun _=>rb true) ?_ ?_ g.length K 0 (by omega) (by omega)
 ·rcases this with ⟨h1,h2⟩|⟨j,_,h1,⟨h3,h4⟩,_,h2⟩
  ·rw[decide_eq_false (fun hm=>by
    obtain⟨i,hi,e⟩:=List.getElem_of_mem hm
    exact h1 i (Nat.zero_le _) hi ⟨hi,e⟩)]
   exact h2
  ·rw[decide_eq_true (h4 ▸ List.getElem_mem h3:n.1∈g)]
   exact h2
 ·intro rec i hi
  simp only[Q101.l0.step]
  rw[bj (by omega:(i:Int)<(List.length g:Int)),ag hi,aq i (by omega),Int.toNat_natCast,ag hi]
  simp only[cond_true,Option.bind_some]
  by_cases h:g[i]=n.1
  ·exact .inr ⟨⟨hi,h⟩,by rw[show (g[i]==n.1)=true by simpa using h];rfl⟩
  ·exact .inl ⟨fun⟨_,h'⟩=>h h',by rw[show (g[i]==n.1)=false by simpa using h];rfl⟩
 ·intro rec
  simp only[Q101.l0.step,aI]
  rfl
theorem vV (K:Nat)(g:List Int)(v:Int)(hl:g.length≤1048576)(hK:1048577<K):Q186.f K (g,v,())=rb (decide (v∈g)):=by
 have:=cr (step:=fun rec a=>Q185.l0.step K (g,v,()) rec a) g.length (fun i=>(i:Int)) (fun j=>∃ h:j<g.length,v=g[j]) (some ((-1,()),())) (fun j=>some ((((j:Nat):Int),()),())) ?_ ?_ g.length K 0 (by omega) (by omega)
 ·simp only[Q186.f]
  rcases this with ⟨h1,h2⟩|⟨j,_,h1,⟨h3,h4⟩,_,h2⟩
  ·have e:Q185.f K (g,v,())=some ((-1,()),()):=h2
   rw[e,decide_eq_false (fun hm=>by
    obtain⟨i,hi,e1⟩:=List.getElem_of_mem hm
    exact h1 i (Nat.zero_le _) hi ⟨hi,e1.symm⟩)]
   rfl
  ·have e:Q185.f K (g,v,())=some ((((j:Nat):Int),()),()):=h2
   rw[e,decide_eq_true (h4 ▸ List.getElem_mem h3:v∈g)]
   simp only[Option.bind_some]
   rw[decide_eq_true (by omega:((j:Nat):Int)≥0)]
 ·intro rec i hi
  simp only[Q185.l0.step]
  rw[bj (by omega:(i:Int)<(List.length g:Int)),ag hi,aq i (by omega)]
  simp only[cond_true,Option.bind_some]
  by_cases h:v=g[i]
  ·exact .inr ⟨⟨hi,h⟩,by rw[show (v==g[i])=true by simpa using h];rfl⟩
  ·exact .inl ⟨fun⟨_,h'⟩=>h h',by rw[show (v==g[i])=false by simpa using h];rfl⟩
 ·intro rec
  simp only[Q185.l0.step,aI]
  rfl
def wanW (n:Node)(d site:Int):bF:=(2,(pY 6 n (iR n site d)).2)
def gY (n:Node)(d:Int):List bF:=bif gX n then (([0,1]:List Int).filter (fun s=>s != aW n.1)).map (wanW n d) else []
theorem wan_s (K:Nat)(n:Node)(d:Int)(h:gM n)(ht:(Node.table n).length≤1048576)(hK:1048577<K):Q103.f K (n,d,())=some ((gY n d,()),()):=by
 simp only[Q103.f,Q103.pre]
 rw[vU K n ht hK]
 simp only[Option.bind_some,gY]
 cases gX n with
 |false=>rfl
 |true =>
  simp only[Bool.not_true,cond_false,cond_true]
  refine mm (step:=fun rec a=>Q103.l0.step K (n,d,()) rec a) ([0,1]:List Int) (fun s=>s != aW n.1) (wanW n d) (fun acc i=>(acc,(i:Int))) (fun ws=>some ((ws,()),())) ?_ ?_ (by simp;omega)
  ·intro rec acc i hi ha
   have hi2:i<2:=hi
   have hv:([0,1]:List Int)[i]=(i:Int):=by
    have:i=0∨i=1:=by omega
    rcases this with rfl|rfl <;> rfl
   simp only[Q103.l0.step,hv]
   rw[decide_eq_true (by omega:(i:Int)≤1),aq i (by omega),jg K n.1]
   simp only[cond_true,Option.bind_some]
   cases (i:Int) != aW n.1 with
   |false=>rfl
   |true =>
    simp only[cond_true]
    rw[far_s K n (i:Int) d h (by omega) (by omega) hK]
    simp only[Option.bind_some]
    refine (congrArg (fun o=>Option.bind o _) (sJ K n 6 (iR n (i:Int) d) ht)).trans ?_
    simp only[Option.bind_some]
    rw[szw _ _ _ (by omega) (by simp;omega)]
    rfl
  ·intro rec acc ha
   simp only[Q103.l0.step]
   rfl
theorem vW (K:Nat)(n:Node)(d:Int)(hn:NB n)(h:gM n)(hT:aT (Node.table n))(hK:1048577<K):Q187.f K (n,d,())=some ((gY n d,()),()):=by
 have ht:=hn.table
 simp only[Q187.f,Q187.pre]
 rw[show Q183.f K (n.2.2.2.2.2.2.2.2.1,2,())=_ from sD K (Node.table n) ht hK hT]
 simp only[Option.bind_some]
 rw[vV K (eq (Node.table n)) n.1 (Nat.le_trans (pa _) (by decide)) hK]
 simp only[Option.bind_some,gY]
 show (bif !(gX n) then _ else _)=_
 cases gX n with
 |false=>rfl
 |true =>
  simp only[Bool.not_true,cond_false,cond_true]
  rw[uj K 7]
  simp only[Option.bind_some,show wr .i64 (aW 7+1)=2 from rfl]
  refine mm (step:=fun rec a=>Q187.l0.step K (n,d,()) rec a) ([0,1]:List Int) (fun s=>s != aW n.1) (wanW n d) (fun acc i=>(acc,(2:Int),(i:Int))) (fun ws=>some ((ws,()),())) ?_ ?_ (by simp;omega)
  ·intro rec acc i hi ha
   have hi2:i<2:=hi
   have hv:([0,1]:List Int)[i]=(i:Int):=by
    have:i=0∨i=1:=by omega
    rcases this with rfl|rfl <;> rfl
   simp only[Q187.l0.step,hv]
   rw[decide_eq_true (by omega:(i:Int)<2),aq i (by omega),oC K n]
   simp only[cond_true,Option.bind_some]
   rw[show ((i:Int) != aW n.1)=!((i:Int)==aW n.1) from rfl]
   cases (i:Int)==aW n.1 with
   |true=>rfl
   |false =>
    simp only[cond_false,Bool.not_false,cond_true]
    rw[wH K n (i:Int) hn hK]
    simp only[Option.bind_some]
    have hkt:aT (er (Node.others n) (i:Int))∧(er (Node.others n) (i:Int)).length≤1048576:=by
     rcases uw (l:=Node.others n) (s:=(i:Int)) with e|⟨x,hx,_,e⟩
     ·rw[e];exact⟨⟨by simp,List.Pairwise.nil⟩,by simp⟩
     ·rw[e];exact h.table x hx
    rw[sD K _ hkt.2 hK hkt.1]
    simp only[Option.bind_some]
    rw[uM (by omega) (by omega)]
    have hw:=fun to=>sI K n 6 to ht
    have fin:∀ to,to=iR n (i:Int) d→((Q181.f K (n,6,to,())).bind fun y9=>bif decide ((List.length acc+List.length ([(2,y9.1.1.2)]))*104≤an) then (rec (acc++([(2,y9.1.1.2)]),(2:Int),((i+1:Nat):Int))) else none)=rec (acc++[wanW n d (i:Int)],(2:Int),((i+1:Nat):Int)):=by
     intro to hto
     rw[hw to,hto]
     simp only[Option.bind_some]
     rw[szw _ _ _ (by omega) (by simp;omega)]
     rfl
    by_cases hg:eq (er (Node.others n) (i:Int))=[]
    ·rw[hg]
     refine fin _ ?_
     rw[iR,hg]
     rfl
    ·have hl:0<(eq (er (Node.others n) (i:Int))).length:=List.length_pos_iff.2 hg
     rw[decide_eq_true (by omega:((eq (er (Node.others n) (i:Int))).length:Int)>0)]
     simp only[cond_true]
     cases ha4:aV .i64 d 4==0 with
     |false =>
      refine fin _ ?_
      rw[iR,ha4,Bool.and_false]
      rfl
     |true =>
      simp only[cond_true]
      rw[decide_eq_false (by omega:¬ ((eq (er (Node.others n) (i:Int))).length:Int)=0),(eZ hg).1,(eZ hg).2.1]
      simp only[cond_false,Option.bind_some]
      refine fin _ ?_
      rw[iR,ha4,decide_eq_true hg]
      rfl
  ·intro rec acc ha
   simp only[Q187.l0.step]
   rfl
def lz (n:Node)(f:ao):Bool:=f.2.2.1 != 4&&f.1 != n.1
def b6 (n:Node):List Int:=((Node.table n).filter (lz n)).map (·.1)
def n4 (n:Node)(to:Int):List bF:=match Node.others n with
 |[]=>[]
 |x::_=>[(1,6,n.1,to,0,n.1,cA n,x.2)]
def gC (n:Node)(draw:Int):List bF :=
 bif aV .i64 draw 3==1 then gY n (Int.fdiv draw (2 ^ 2)) else
 bif aV .i64 draw 3==3||decide (b6 n=[]) then [] else
 bif aV .i64 draw 3==0 then [pY 4 n (gL (b6 n) (Int.fdiv draw (2 ^ 2)))] else n4 n (gL (b6 n) (Int.fdiv draw (2 ^ 2)))
theorem and3 (a:Int):aV .i64 a 3=0∨aV .i64 a 3=1∨aV .i64 a 3=2∨aV .i64 a 3=3:=by
 obtain⟨b0,b1⟩:=qR (a:=a) (m:=3) (by omega)
 have b0:0≤aV .i64 a 3:=b0
 have b1:aV .i64 a 3≤3:=b1
 omega
theorem uN {n:Node}(hT:aT (Node.table n)){v:Int}(hv:v∈b6 n):0≤v:=by
 obtain⟨f,hf,rfl⟩:=List.mem_map.1 hv
 exact (hT.1 f (List.mem_filter.1 hf).1).1.1
theorem xq (K:Nat)(n:Node)(d:Int)(ht:(Node.table n).length≤1048576)(hK:1048577<K):Q99.f K (n,d,())=some ((bif decide (b6 n=[]) then -1 else gL (b6 n) d,()),()):=by
 refine (nU (step:=fun rec a=>Q99.l0.step K (n,d,()) rec a) (Node.table n) (lz n) (fun f=>f.1) (fun xs=>some ((bif decide (xs=[]) then -1 else gL xs d,()),())) ?_ ?_ (by omega)).trans rfl
 ·intro rec acc i hi ha
  simp only[Q99.l0.step]
  rw[show decide ((i:Int)<(List.length n.2.2.2.2.2.2.2.2.1:Int))=true from bj (by omega:(i:Int)<(List.length (Node.table n):Int)),show idx n.2.2.2.2.2.2.2.2.1 (i:Int)=some (Node.table n)[i] from ag hi,aq i (by omega)]
  simp only[cond_true,Option.bind_some,lz]
  rw[szb _ _ _ (by omega) (by simp;omega)]
  cases (Node.table n)[i].1 != n.1 <;> cases (Node.table n)[i].2.2.1 != 4 <;> rfl
 ·intro rec acc _
  simp only[Q99.l0.step]
  rw[show decide ((List.length (Node.table n):Int)<(List.length n.2.2.2.2.2.2.2.2.1:Int))=false from aI _]
  simp only[cond_false]
  by_cases hg:acc=[]
  ·subst hg;rfl
  ·have hl:0<acc.length:=List.length_pos_iff.2 hg
   rw[show ((acc.length:Int)==0)=false by simp;exact hg,decide_eq_false (by omega:¬ (acc.length:Int)=0),decide_eq_false hg,(eZ hg).1,(eZ hg).2.1]
   rfl
theorem xr (K:Nat)(n:Node)(draw:Int)(h:gM n)(hT:aT (Node.table n))(ht:(Node.table n).length≤1048576)(hK:1048577<K):Q104.f K (n,draw,())=some ((gC n draw,()),()):=by
 simp only[Q104.f]
 rw[xq K n _ ht hK]
 simp only[Option.bind_some]
 rw[wan_s K n _ h ht hK]
 simp only[Option.bind_some,gC]
 by_cases ht0:b6 n=[]
 ·rw[decide_eq_true ht0]
  simp only[cond_true,Bool.or_true,show decide ((-1:Int)≥0)=false from rfl,cond_false]
  rcases and3 draw with e|e|e|e <;> rw[e] <;> rfl
 ·have h0:=uN hT (eZ (d:=Int.fdiv draw (2 ^ 2)) ht0).2.2
  rw[decide_eq_false ht0]
  simp only[cond_false,Bool.or_false]
  rw[decide_eq_true (by omega:gL (b6 n) (Int.fdiv draw (2 ^ 2))≥0)]
  simp only[cond_true]
  rw[show Q89.f K (n,4,gL (b6 n) (Int.fdiv draw (2 ^ 2)),0,n.1,n.2.2.2.2.2.2.2.2.1,())=_ from sJ K n 4 _ ht]
  simp only[Option.bind_some]
  rcases and3 draw with e|e|e|e
  ·rw[e];rfl
  ·rw[e];rfl
  ·rw[e]
   simp only[show ((2:Int)==0)=false from rfl,show ((2:Int)==1)=false from rfl,show ((2:Int)==2)=true from rfl,show ((2:Int)==3)=false from rfl,cond_false,cond_true]
   unfold n4
   match ho:Node.others n with
   |[] =>
    rw[show decide ((List.length n.2.2.2.2.2.2.2.2.2.2.2.2.2.2:Int)>0)=false by show decide (((Node.others n).length:Int)>0)=false;rw[ho];rfl]
    rfl
   |[x] =>
    have hx:=h.table x (by rw[ho];simp)
    have hl:(Node.others n).length=1:=by rw[ho];rfl
    rw[show decide ((List.length n.2.2.2.2.2.2.2.2.2.2.2.2.2.2:Int)>0)=true by show decide (((Node.others n).length:Int)>0)=true;rw[hl];rfl,show decide ((List.length n.2.2.2.2.2.2.2.2.2.2.2.2.2.2:Int)=0)=false by show decide (((Node.others n).length:Int)=0)=false;rw[hl];rfl]
    simp only[cond_true,cond_false]
    rw[show idx n.2.2.2.2.2.2.2.2.2.2.2.2.2.2 (Int.tmod (aV .i64 (Int.fdiv draw (2 ^ 10)) 255) (List.length n.2.2.2.2.2.2.2.2.2.2.2.2.2.2:Int))=some x by
     show idx (Node.others n) (Int.tmod (aV .i64 (Int.fdiv draw (2 ^ 10)) 255) ((Node.others n).length:Int))=some x
     rw[hl,ho,show ((1:Nat):Int)=1 from rfl,Int.tmod_one]
     rfl]
    simp only[Option.bind_some,Q89.f]
    rw[szb _ _ _ (by omega) (by have:=hx.2;simp;omega)]
    rfl
   |_::_::_=>exact absurd h.short (by rw[ho];simp)
  ·rw[e];rfl
theorem wQ (K:Nat)(n:Node)(draw:Int)(hn:NB n)(h:gM n)(hT:aT (Node.table n))(hK:1048577<K):Q189.f K (n,draw,())=some ((gC n draw,()),()):=by
 have ht:=hn.table
 simp only[Q189.f]
 rw[vW K n _ hn h hT hK]
 simp only[Option.bind_some,gC]
 cases aV .i64 draw 3==1 with
 |true=>rfl
 |false =>
  simp only[cond_false]
  rw[show Q157.f K (n.2.2.2.2.2.2.2.2.1,(fun y2=>(Q188.f K (y2.1,n,())).map fun y=>y.1.1),())=_ from oI K (Node.table n) _ (lz n) ht hK (fun f _=>by
   simp only[Q188.f,lz]
   cases f.2.2.1 != 4 <;> cases f.1 != n.1 <;> rfl)]
  simp only[Option.bind_some]
  show (bif aV .i64 draw 3==3 then some (([],()),()) else (bif ((b6 n).length:Int)==0 then _ else _))=_
  cases aV .i64 draw 3==3 with
  |true=>rfl
  |false =>
   simp only[cond_false,Bool.false_or]
   by_cases ht0:b6 n=[]
   ·rw[decide_eq_true ht0,show (((b6 n).length:Int)==0)=true by rw[ht0];rfl]
    rfl
   ·have hl:0<(b6 n).length:=List.length_pos_iff.2 ht0
    rw[decide_eq_false ht0,show (((b6 n).length:Int)==0)=false by simp;exact ht0]
    simp only[cond_false]
    show (bif decide (((b6 n).length:Int)=0) then none else ((idx (b6 n) (Int.tmod (aV .i64 (Int.fdiv draw (2 ^ 2)) 255) ((b6 n).length:Int))).bind fun _=>(idx (b6 n) ((Int.toNat (Int.tmod (aV .i64 (Int.fdiv draw (2 ^ 2)) 255) ((b6 n).length:Int)):Nat):Int)).bind fun y5=>_))=_
    rw[decide_eq_false (by omega:¬ ((b6 n).length:Int)=0),(eZ ht0).1,(eZ ht0).2.1]
    simp only[cond_false,Option.bind_some]
    cases aV .i64 draw 3==0 with
    |true =>
     simp only[cond_true]
     rw[sI K n 4 _ ht]
     rfl
    |false =>
     simp only[cond_false,Q160.f,Option.bind_some,Q0.f]
     unfold n4
     match ho:Node.others n with
     |[] =>
      rw[show ((List.length n.2.2.2.2.2.2.2.2.2.2.2.2.2.2:Int)==0)=true by show (((Node.others n).length:Int)==0)=true;rw[ho];rfl]
      rfl
     |[x] =>
      have hx:=h.table x (by rw[ho];simp)
      have hl1:(Node.others n).length=1:=by rw[ho];rfl
      rw[show ((List.length n.2.2.2.2.2.2.2.2.2.2.2.2.2.2:Int)==0)=false by show (((Node.others n).length:Int)==0)=false;rw[hl1];rfl,show decide ((List.length n.2.2.2.2.2.2.2.2.2.2.2.2.2.2:Int)=0)=false by show decide (((Node.others n).length:Int)=0)=false;rw[hl1];rfl]
      simp only[cond_false]
      rw[show idx n.2.2.2.2.2.2.2.2.2.2.2.2.2.2 (Int.tmod (aV .i64 (Int.fdiv (Int.fdiv draw (2 ^ 2)) (2 ^ 10)) 255) (List.length n.2.2.2.2.2.2.2.2.2.2.2.2.2.2:Int))=some x by
       show idx (Node.others n) (Int.tmod (aV .i64 (Int.fdiv (Int.fdiv draw (2 ^ 2)) (2 ^ 10)) 255) ((Node.others n).length:Int))=some x
       rw[hl1,ho,show ((1:Nat):Int)=1 from rfl,Int.tmod_one]
       rfl]
      simp only[Option.bind_some]
      rw[dx (by have:=hx.2;omega)]
      rfl
     |_::_::_=>exact absurd h.short (by rw[ho];simp)
end Go.Proofs.YthgnfidnmnkeaaaGreatEv
