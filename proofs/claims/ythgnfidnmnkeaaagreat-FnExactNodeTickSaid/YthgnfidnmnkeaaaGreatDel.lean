/- slices.DeleteFunc, walked. Printed by delete.py. -/
import Derived.Test.YthgnfidnmnkeaaaGreatProg
import Derived.Test.YthgnfidnmnkeaaaGreatEvS
import Derived.Test.YthgnfidnmnkeaaaGreatE7
import Derived.Shelf.Spec.SlicesInsert
import Derived.Deep.LoopGhost
set_option linter.unusedVariables false
set_option maxRecDepth 100000
namespace Go.Proofs.YthgnfidnmnkeaaaGreatEv
open Go Go.Proofs Go.Shelf Go.RowKit Go.Lib
namespace Q4
set_option maxHeartbeats 4000000 in
theorem del_walk (w:World)(g n cap:Nat)(cur:Array Value)(flat:List Value)(inf:TypeInfo)(z:Value)(hi:Tryz.prog.info? 177=some inf)(hzv:inf.zero=some z)(hz1:z.cells=#[Value.int IntKind.i64 0,Value.int IntKind.i64 0,Value.int IntKind.i64 0,Value.slice none 0 0])
  (hg:w.heap[g]?=some (.cells cur 177 (0,0))) (hcm:cap≤maxLen) (hcs:cap*4≤cur.size) (htake:cur.toList.take (n*4)=flat) (hfl:flat.length=n*4) (h1c:∀ u∈flat,u.oneCell'=true) (hnc:n≤cap)
  (fi:Nat) (caps:Array Value) (ef:fb Tryz.prog fi) (del:Nat→Bool) (p0:Nat) (hp0:p0<n) (hdel0:del p0=true) (hkeep0:∀ j,j<p0→del j=false)
  (hφ:(∀ w1:World,w.heap.size≤w1.heap.size→(∀ k,k<w.heap.size→k≠g→w1.heap[k]?=w.heap[k]?)→∀ j,j<n→Calls Tryz.prog fi (#[.agg ((flat.drop (j*4)).take 4).toArray]++caps) w1 (fun e w2=>e=.returned (.bool (del j))∧Below w1.heap.size w1 w2)))
  (hidx:Calls Tryz.prog 307 #[.slice (some ⟨g,0,none⟩) n cap,.func (.func fi) #[] caps] w fun e w'=>e=.returned (.int .i64 p0)∧Below w.heap.size w w') :
  Calls Tryz.prog 253 #[.slice (some ⟨g,0,none⟩) n cap,.func (.func fi) #[] caps] w fun e w'=>∃ v',e=.returned v'∧Row w' 177 4 v' (c7 del n) (eQ 4 del flat n)∧w.grownBy w' (some g)∧v'.ownBlock=some g:=by
 have hcm':cap≤9223372036854775807:=by simp only[maxLen]at hcm;omega
 have hz:¬ ((p0:Int)=-1):=by omega
 have mixed:Tryz.prog.follows .mixedOrders=true:=by kernel_rfl
 have hw1:IntKind.i64.wrap ((p0:Int)+1)=((p0+1:Nat):Int):=by rw[IntKind.wrap_i64];omega
 have eI:∀ args w,(callFunc 307 args).run Tryz.prog w=.ok (.enter 307 args) w:=fun args w=>d4 Tryz.func307 (by kernel_rfl) rfl args w
 have efi:∀ args w,(callFunc fi args).run Tryz.prog w=.ok (.enter fi args) w:=ef
 have hgs:g<w.heap.size:=(Array.getElem?_eq_some_iff.1 hg).1
 have hncs:n*4≤cur.size:=Nat.le_trans (Nat.mul_le_mul_right _ hnc) hcs
 have A:Aside ((∀ j,j<p0→del j=false)∧flat.length=n*4∧cur.toList.take (n*4)=flat∧(∀ w1:World,w.heap.size≤w1.heap.size→(∀ k,k<w.heap.size→k≠g→w1.heap[k]?=w.heap[k]?)→∀ j,j<n→Calls Tryz.prog fi (#[.agg ((flat.drop (j*4)).take 4).toArray]++caps) w1 (fun e w2=>e=.returned (.bool (del j))∧Below w1.heap.size w1 w2))∧(∀ u∈flat,u.oneCell'=true)∧cap*4≤cur.size∧w.heap[g]?=some (.cells cur 177 (0,0))∧del p0=true∧cap≤maxLen∧n*4≤cur.size∧g<w.heap.size∧inf.zero=some z∧z.cells=#[Value.int IntKind.i64 0,Value.int IntKind.i64 0,Value.int IntKind.i64 0,Value.slice none 0 0]∧Tryz.prog.info? 177=some inf):=⟨hkeep0,hfl,htake,hφ,h1c,hcs,hg,hdel0,hcm,hncs,hgs,hzv,hz1,hi⟩
 clear hkeep0 hfl htake hφ h1c hcs hg hdel0 hcm hncs hgs hzv hz1 hi
 go_enter Tryz.func253,Tryz.ntmps253
 go_wp2_with (go_at_fn 307;refine hidx.mono ?_;rintro e W ⟨rfl,hb0⟩)
 go_loopg [5,6] n (fun k s5 s6 wx=>∃ p j:Nat,s5=.int .i64 p∧s6=.int .i64 j∧j≤n∧n≤j+k∧dI w g n 4 177 cur.size del flat p j wx)
 case atStart =>
  obtain⟨hkeep0,hfl,htake,hφ,h1c,hcs,hg,hdel0,hcm,hncs,hgs,hzv,hz1,hi⟩:=A.out
  have hp0n:(p0+1)*4≤n*4:=Nat.mul_le_mul_right _ hp0
  have hk:=nI (s:=4) (flat:=flat) hkeep0 (by omega)
  refine⟨p0,p0+1,rfl,by first|rfl|simp,by omega,by omega,hb0.os,hb0.tape,hb0.output,hb0.size,fun k hk _=>hb0.block k hk,⟨cur,(hb0.block g hgs).trans hg,rfl,?_,fun t _ ht=>?_⟩,?_,by omega⟩
  ·simp only[eQ,hdel0,if_true,List.append_nil]
   rw[hk.1,← htake,List.take_take,Nat.min_eq_left (by omega)]
  ·rw[← htake,List.getElem?_take,if_pos ht,Array.getElem?_toList]
  ·simp only[c7,hdel0,if_true,Nat.add_zero,hk.2]
 case round =>
  obtain⟨p,j,rfl,rfl,hjn,hfu,hR⟩:=hrel
  obtain⟨hkeep0,hfl,htake,hφ,h1c,hcs,hg,hdel0,hcm,hncs,hgs,hzv,hz1,hi⟩:=A.out
  obtain⟨curx,hxg,hxs,hxt,hxr⟩:=hR.row
  have hpj:=hR.lt
  have hwrs:=hR.size
  by_cases hj:j<n
  ·have hjz:(j:Int)<(n:Int):=by omega
   have hj1:(j+1)*4≤n*4:=Nat.mul_le_mul_right _ hj
   have hpj1:(p+1)*4≤j*4:=Nat.mul_le_mul_right _ hpj
   have hc:∀ t,t<4→∃ u,wr.cell? ⟨g,j*4+t,none⟩=some u∧flat[j*4+t]?=some u:=fun t ht =>
    ⟨curx[j*4+t]'(by omega),by rw[cell_of_row wr g _ curx 177 (0,0) hxg];exact Array.getElem?_eq_getElem (by omega),by rw[← hxr _ (by omega) (by omega)];exact Array.getElem?_eq_getElem (by omega)⟩
   obtain⟨c0,hc0,hd0⟩:=hc 0 (by omega)
   obtain⟨c1,hc1,hd1⟩:=hc 1 (by omega)
   obtain⟨c2,hc2,hd2⟩:=hc 2 (by omega)
   obtain⟨c3,hc3,hd3⟩:=hc 3 (by omega)
   rw[Nat.add_zero]at hc0
   have o0:=h1c c0 (List.mem_of_getElem? hd0)
   have o1:=h1c c1 (List.mem_of_getElem? hd1)
   have o2:=h1c c2 (List.mem_of_getElem? hd2)
   have o3:=h1c c3 (List.mem_of_getElem? hd3)
   have hcells:(flat.drop (j*4)).take 4=[c0,c1,c2,c3]:=by
    refine List.ext_getElem? fun i=>?_
    rw[List.getElem?_take]
    split
    ·rename_i hi
     rw[List.getElem?_drop]
     rcases i with _|(_|(_|(_|_)))
     all_goals first|assumption|omega
    ·rename_i hi
     exact (List.getElem?_eq_none (by simp only[List.length_cons,List.length_nil];omega)).symm
   have hA0:(wr.alloc (.cells #[Value.int IntKind.i64 0,Value.int IntKind.i64 0,Value.int IntKind.i64 0,Value.slice none 0 0] 177)).heap[wr.heap.size]?=some (.cells #[Value.int IntKind.i64 0,Value.int IntKind.i64 0,Value.int IntKind.i64 0,Value.slice none 0 0] 177 (0,0)):=heap_alloc_new wr _
   obtain⟨W1,e0,k0,s0⟩:=bM (P:=Tryz.prog) (wr.alloc (.cells #[Value.int IntKind.i64 0,Value.int IntKind.i64 0,Value.int IntKind.i64 0,Value.slice none 0 0] 177)) wr.heap.size 0 _ 177 c0 hA0 (by simp) o0
   obtain⟨W2,e1,k1,s1⟩:=bM (P:=Tryz.prog) W1 wr.heap.size 1 _ 177 c1 k0 (by simp) o1
   obtain⟨W3,e2,k2,s2⟩:=bM (P:=Tryz.prog) W2 wr.heap.size 2 _ 177 c2 k1 (by simp) o2
   obtain⟨W4,e3,k3,s3⟩:=bM (P:=Tryz.prog) W3 wr.heap.size 3 _ 177 c3 k2 (by simp) o3
   have kB:W4.heap[wr.heap.size]?=some (.cells #[c0,c1,c2,c3] 177 (0,0)):=k3
   have sB:fm wr.heap.size (wr.alloc (.cells #[Value.int IntKind.i64 0,Value.int IntKind.i64 0,Value.int IntKind.i64 0,Value.slice none 0 0] 177)) W4:=(((s0.trans s1).trans s2).trans s3)
   have szB:W4.heap.size=wr.heap.size+1:=by rw[sB.size];simp
   have oB:∀ k,k<wr.heap.size→W4.heap[k]?=wr.heap[k]?:=fun k hk=>(sB.other k (by omega)).trans (Go.heap_alloc_old wr _ hk)
   have l0:W4.cell? ⟨wr.heap.size,0,none⟩=some c0:=by rw[cell_of_row _ _ _ _ _ _ kB];rfl
   have l1:W4.cell? ⟨wr.heap.size,1,none⟩=some c1:=by rw[cell_of_row _ _ _ _ _ _ kB];rfl
   have l2:W4.cell? ⟨wr.heap.size,2,none⟩=some c2:=by rw[cell_of_row _ _ _ _ _ _ kB];rfl
   have l3:W4.cell? ⟨wr.heap.size,3,none⟩=some c3:=by rw[cell_of_row _ _ _ _ _ _ kB];rfl
   have cφ:=hφ W4 (by omega) (fun k hk hn=>(oB k (by omega)).trans (hR.other k hk hn)) j hj
   rw[hcells]at cφ
   have hwj:IntKind.i64.wrap ((j:Int)+1)=((j+1:Nat):Int):=by rw[IntKind.wrap_i64];omega
   have hwp:IntKind.i64.wrap ((p:Int)+1)=((p+1:Nat):Int):=by rw[IntKind.wrap_i64];omega
   have hpz:(p:Int)<(n:Int):=by omega
   have B:Aside (wr.heap[g]?=some (.cells curx 177 (0,0))∧curx.size=cur.size∧dI w g n 4 177 cur.size del flat p j wr∧(flat.drop (j*4)).take 4=[c0,c1,c2,c3]∧W4.heap[wr.heap.size]?=some (.cells #[c0,c1,c2,c3] 177 (0,0))∧fm wr.heap.size (wr.alloc (.cells #[Value.int IntKind.i64 0,Value.int IntKind.i64 0,Value.int IntKind.i64 0,Value.slice none 0 0] 177)) W4∧W4.heap.size=wr.heap.size+1∧(∀ k,k<wr.heap.size→W4.heap[k]?=wr.heap[k]?)∧w.heap.size≤wr.heap.size∧(j+1)*4≤n*4∧(p+1)*4≤j*4∧n*4≤cur.size∧g<w.heap.size):=⟨hxg,hxs,hR,hcells,kB,sB,szB,oB,hwrs,hj1,hpj1,hncs,hgs⟩
   clear hkeep0 hfl htake hφ h1c hcs hg hdel0 hcm hncs hgs hzv hz1 hi hxg hxs hxt hxr hwrs hj1 hpj1 hc hcells hA0 kB sB szB oB k0 k1 k2 k3 s0 s1 s2 s3 hd0 hd1 hd2 hd3
   cases hdj:del j with
   |true =>
    rw[hdj]at cφ
    have D:Aside (del j=true∧dI w g n 4 177 cur.size del flat p j wr):=⟨hdj,hR⟩
    clear hdj hR
    go_wp2
    refine cφ.mono ?_
    rintro e W' ⟨rfl,hb1⟩
    go_wp2
    go_roundg (gk-1)
    case measure=>omega
    case rel =>
     obtain⟨hxg,hxs,_,hcells,kB,sB,szB,oB,hwrs,hj1,hpj1,hncs,hgs⟩:=B.out
     exact⟨p,j+1,by first|rfl|simp,by first|rfl|simp,by omega,by omega,D.out.2.skip D.out.1 (hb1.os.trans sB.os) (hb1.tape.trans sB.tape) (hb1.output.trans sB.output) (by have:=hb1.size;omega) (fun k hk=>(hb1.block k (by omega)).trans (oB k hk)) hgs⟩
   |false =>
    rw[hdj]at cφ
    have D:Aside (del j=false∧dI w g n 4 177 cur.size del flat p j wr):=⟨hdj,hR⟩
    clear hdj hR
    go_wp2
    refine cφ.mono ?_
    rintro e W' ⟨rfl,hb1⟩
    obtain⟨hxg,hxs,hR,hcells,kB,sB,szB,oB,hwrs,hj1,hpj1,hncs,hgs⟩:=B.out
    have kC:W'.heap[wr.heap.size]?=some (.cells #[c0,c1,c2,c3] 177 (0,0)):=(hb1.block _ (by omega)).trans kB
    have rC:W'.heap[g]?=some (.cells curx 177 (0,0)):=(hb1.block _ (by omega)).trans ((oB g (by omega)).trans hxg)
    have m0:W'.cell? ⟨wr.heap.size,0,none⟩=some c0:=by rw[cell_of_row _ _ _ _ _ _ kC];rfl
    have m1:W'.cell? ⟨wr.heap.size,1,none⟩=some c1:=by rw[cell_of_row _ _ _ _ _ _ kC];rfl
    have m2:W'.cell? ⟨wr.heap.size,2,none⟩=some c2:=by rw[cell_of_row _ _ _ _ _ _ kC];rfl
    have m3:W'.cell? ⟨wr.heap.size,3,none⟩=some c3:=by rw[cell_of_row _ _ _ _ _ _ kC];rfl
    obtain⟨V1,f0,q0,r0⟩:=bM (P:=Tryz.prog) W' g (p*4) _ 177 c0 rC (by (try simp only[Array.size_setIfInBounds]);omega) o0
    obtain⟨V2,f1,q1,r1⟩:=bM (P:=Tryz.prog) V1 g (p*4+1) _ 177 c1 q0 (by (try simp only[Array.size_setIfInBounds]);omega) o1
    obtain⟨V3,f2,q2,r2⟩:=bM (P:=Tryz.prog) V2 g (p*4+2) _ 177 c2 q1 (by (try simp only[Array.size_setIfInBounds]);omega) o2
    obtain⟨V4,f3,q3,r3⟩:=bM (P:=Tryz.prog) V3 g (p*4+3) _ 177 c3 q2 (by (try simp only[Array.size_setIfInBounds]);omega) o3
    have qV:V4.heap[g]?=some (.cells (fp curx (p*4) [c0,c1,c2,c3]) 177 (0,0)):=q3
    have sV:fm g W' V4:=(((r0.trans r1).trans r2).trans r3)
    have E2:Aside (V4.heap[g]?=some (.cells (fp curx (p*4) [c0,c1,c2,c3]) 177 (0,0))∧fm g W' V4∧Below W4.heap.size W4 W'):=⟨qV,sV,hb1⟩
    clear qV sV hb1 hxg hxs hR hcells kB sB szB oB hwrs hj1 hpj1 hncs hgs kC rC q0 q1 q2 q3 r0 r1 r2 r3 cφ
    go_wp2
    go_roundg (gk-1)
    case measure=>omega
    case rel =>
     obtain⟨hxg,hxs,_,hcells,kB,sB,szB,oB,hwrs,hj1,hpj1,hncs,hgs⟩:=B.out
     obtain⟨qV,sV,hb1⟩:=E2.out
     have hbs:=hb1.size
     have hvs:=sV.size
     exact⟨p+1,j+1,by first|rfl|simp,by first|rfl|simp,by omega,by omega,D.out.2.keep hxg D.out.1 (sV.os.trans (hb1.os.trans sB.os)) (sV.tape.trans (hb1.tape.trans sB.tape)) (sV.output.trans (hb1.output.trans sB.output)) (by omega)
      (fun k hk hn=>(sV.other k hn).trans ((hb1.block k (by omega)).trans (oB k hk))) hj hncs qV rfl hcells⟩
  ·have hjn':j=n:=by omega
   subst hjn'
   have hjz:¬ ((j:Int)<(j:Int)):=by omega
   have hp0':(0:Int)≤(p:Int):=by omega
   have hpz:¬ (cap=p):=by omega
   have hpn:p≤j:=by omega
   have hpc:p≤cap:=by omega
   obtain⟨cur',hclr,hcs1,hcs2⟩:=lj (P:=Tryz.prog) wr 39 177 inf z Tryz.underlying39 hi hzv g (p*4) (j-p) (cap-p) curx 177 hxg (by omega) (by rw[hz1];simp only[List.size_toArray,List.length_cons,List.length_nil];rw[← Nat.add_mul];have:(p+(j-p))*4≤cap*4:=Nat.mul_le_mul_right _ (by omega);omega) (by rw[hz1];simp[Value.oneCell'])
   have B:Aside (wr.heap[g]?=some (.cells curx 177 (0,0))∧curx.size=cur.size∧dI w g j 4 177 cur.size del flat p j wr∧curx.toList.take (p*4)=eQ 4 del flat j∧cur'.size=curx.size∧cur'.toList.take (p*4)=curx.toList.take (p*4)∧cap≤maxLen∧cap*4≤cur.size∧flat.length=j*4):=⟨hxg,hxs,hR,hxt,hcs1,hcs2,hcm,hcs,hfl⟩
   clear hkeep0 hfl htake hφ h1c hcs hg hdel0 hcm hncs hgs hzv hz1 hi hxg hxs hxt hxr hwrs hR hcs1 hcs2
   go_wp2
   go_ret
   obtain⟨hxg,hxs,hR,hxt,hcs1,hcs2,hcm,hcs,hfl⟩:=B.out
   have hlen:=nJ (s:=4) (del:=del) (flat:=flat) (j:=j) (by omega)
   have hcnt:=hR.cnt
   refine⟨.slice (some ⟨g,0,none⟩) p cap,rfl,⟨hlen,.inr ⟨g,cap,cur',by rw[hcnt],setRow_heap wr g curx cur' 177 (0,0) hxg,by omega,hcm,by omega,by rw[← hcnt,hcs2,hxt]⟩⟩,⟨hR.os,hR.tape,hR.output,by simpa using hR.size,fun k hk hn=>(setRow_other wr g k cur' (fun h=>hn (by rw[h]))).trans (hR.other k hk (fun h=>hn (by rw[h])))⟩,rfl⟩
set_option maxHeartbeats 4000000 in
theorem del_none (w:World)(v0 fv:Value)(hidx:Calls Tryz.prog 307 #[v0,fv] w fun e w'=>e=.returned (.int .i64 (-1))∧Below w.heap.size w w') :
  Calls Tryz.prog 253 #[v0,fv] w fun e w'=>e=.returned v0∧Below w.heap.size w w':=by
 have mixed:Tryz.prog.follows .mixedOrders=true:=by kernel_rfl
 have eI:∀ args w,(callFunc 307 args).run Tryz.prog w=.ok (.enter 307 args) w:=fun args w=>d4 Tryz.func307 (by kernel_rfl) rfl args w
 go_enter Tryz.func253,Tryz.ntmps253
 go_wp2_with (go_at_fn 307;refine hidx.mono ?_;rintro e W ⟨rfl,hb0⟩)
 go_ret
 exact⟨rfl,hb0⟩
theorem walk:oZ Tryz.prog 253 307 177 4 where
 none_:=fun w v0 fv n flat _ h=>del_none w v0 fv h
 some_:=fun w g n cap flat fi caps del p0 hrow h1 ef hp hd hk hφ hidx=>by
  have q1:(Tryz.prog.info? 177).isSome=true:=by kernel_rfl
  have q2:((Tryz.prog.info? 177).bind fun i=>i.zero).map (fun z=>z.cells)=some #[Value.int IntKind.i64 0,Value.int IntKind.i64 0,Value.int IntKind.i64 0,Value.slice none 0 0]:=by kernel_rfl
  obtain⟨inf,hi⟩:=Option.isSome_iff_exists.1 q1
  rw[hi]at q2
  simp only[Option.bind_some,Option.map_eq_some_iff]at q2
  obtain⟨z,hz,hzs⟩:=q2
  obtain⟨hfl,⟨h0,_⟩|⟨g',cap',cur,h0,hg,hnc,hcm,hcs,htake⟩⟩:=hrow
  ·cases h0
  ·simp only[Value.slice.injEq,Option.some.injEq,Addr.mk.injEq,and_true,true_and]at h0
   obtain⟨rfl,rfl⟩:=h0
   exact del_walk w g n cap cur flat inf z hi hz hzs hg hcm hcs htake hfl h1 hnc fi caps ef del p0 hp hd hk hφ hidx
end Q4
namespace Q9
set_option maxHeartbeats 4000000 in
theorem del_walk (w:World)(g n cap:Nat)(cur:Array Value)(flat:List Value)(inf:TypeInfo)(z:Value)(hi:Tryz.prog.info? 173=some inf)(hzv:inf.zero=some z)(hz1:z.cells=#[Value.int IntKind.i64 0,Value.int IntKind.i64 0,Value.int IntKind.i64 0,Value.bool false,Value.int IntKind.i64 0])
  (hg:w.heap[g]?=some (.cells cur 173 (0,0))) (hcm:cap≤maxLen) (hcs:cap*5≤cur.size) (htake:cur.toList.take (n*5)=flat) (hfl:flat.length=n*5) (h1c:∀ u∈flat,u.oneCell'=true) (hnc:n≤cap)
  (fi:Nat) (caps:Array Value) (ef:fb Tryz.prog fi) (del:Nat→Bool) (p0:Nat) (hp0:p0<n) (hdel0:del p0=true) (hkeep0:∀ j,j<p0→del j=false)
  (hφ:(∀ w1:World,w.heap.size≤w1.heap.size→(∀ k,k<w.heap.size→k≠g→w1.heap[k]?=w.heap[k]?)→∀ j,j<n→Calls Tryz.prog fi (#[.agg ((flat.drop (j*5)).take 5).toArray]++caps) w1 (fun e w2=>e=.returned (.bool (del j))∧Below w1.heap.size w1 w2)))
  (hidx:Calls Tryz.prog 290 #[.slice (some ⟨g,0,none⟩) n cap,.func (.func fi) #[] caps] w fun e w'=>e=.returned (.int .i64 p0)∧Below w.heap.size w w') :
  Calls Tryz.prog 344 #[.slice (some ⟨g,0,none⟩) n cap,.func (.func fi) #[] caps] w fun e w'=>∃ v',e=.returned v'∧Row w' 173 5 v' (c7 del n) (eQ 5 del flat n)∧w.grownBy w' (some g)∧v'.ownBlock=some g:=by
 have hcm':cap≤9223372036854775807:=by simp only[maxLen]at hcm;omega
 have hz:¬ ((p0:Int)=-1):=by omega
 have mixed:Tryz.prog.follows .mixedOrders=true:=by kernel_rfl
 have hw1:IntKind.i64.wrap ((p0:Int)+1)=((p0+1:Nat):Int):=by rw[IntKind.wrap_i64];omega
 have eI:∀ args w,(callFunc 290 args).run Tryz.prog w=.ok (.enter 290 args) w:=fun args w=>d4 Tryz.func290 (by kernel_rfl) rfl args w
 have efi:∀ args w,(callFunc fi args).run Tryz.prog w=.ok (.enter fi args) w:=ef
 have hgs:g<w.heap.size:=(Array.getElem?_eq_some_iff.1 hg).1
 have hncs:n*5≤cur.size:=Nat.le_trans (Nat.mul_le_mul_right _ hnc) hcs
 have A:Aside ((∀ j,j<p0→del j=false)∧flat.length=n*5∧cur.toList.take (n*5)=flat∧(∀ w1:World,w.heap.size≤w1.heap.size→(∀ k,k<w.heap.size→k≠g→w1.heap[k]?=w.heap[k]?)→∀ j,j<n→Calls Tryz.prog fi (#[.agg ((flat.drop (j*5)).take 5).toArray]++caps) w1 (fun e w2=>e=.returned (.bool (del j))∧Below w1.heap.size w1 w2))∧(∀ u∈flat,u.oneCell'=true)∧cap*5≤cur.size∧w.heap[g]?=some (.cells cur 173 (0,0))∧del p0=true∧cap≤maxLen∧n*5≤cur.size∧g<w.heap.size∧inf.zero=some z∧z.cells=#[Value.int IntKind.i64 0,Value.int IntKind.i64 0,Value.int IntKind.i64 0,Value.bool false,Value.int IntKind.i64 0]∧Tryz.prog.info? 173=some inf):=⟨hkeep0,hfl,htake,hφ,h1c,hcs,hg,hdel0,hcm,hncs,hgs,hzv,hz1,hi⟩
 clear hkeep0 hfl htake hφ h1c hcs hg hdel0 hcm hncs hgs hzv hz1 hi
 go_enter Tryz.func344,Tryz.ntmps344
 go_wp2_with (go_at_fn 290;refine hidx.mono ?_;rintro e W ⟨rfl,hb0⟩)
 go_loopg [5,6] n (fun k s5 s6 wx=>∃ p j:Nat,s5=.int .i64 p∧s6=.int .i64 j∧j≤n∧n≤j+k∧dI w g n 5 173 cur.size del flat p j wx)
 case atStart =>
  obtain⟨hkeep0,hfl,htake,hφ,h1c,hcs,hg,hdel0,hcm,hncs,hgs,hzv,hz1,hi⟩:=A.out
  have hp0n:(p0+1)*5≤n*5:=Nat.mul_le_mul_right _ hp0
  have hk:=nI (s:=5) (flat:=flat) hkeep0 (by omega)
  refine⟨p0,p0+1,rfl,by first|rfl|simp,by omega,by omega,hb0.os,hb0.tape,hb0.output,hb0.size,fun k hk _=>hb0.block k hk,⟨cur,(hb0.block g hgs).trans hg,rfl,?_,fun t _ ht=>?_⟩,?_,by omega⟩
  ·simp only[eQ,hdel0,if_true,List.append_nil]
   rw[hk.1,← htake,List.take_take,Nat.min_eq_left (by omega)]
  ·rw[← htake,List.getElem?_take,if_pos ht,Array.getElem?_toList]
  ·simp only[c7,hdel0,if_true,Nat.add_zero,hk.2]
 case round =>
  obtain⟨p,j,rfl,rfl,hjn,hfu,hR⟩:=hrel
  obtain⟨hkeep0,hfl,htake,hφ,h1c,hcs,hg,hdel0,hcm,hncs,hgs,hzv,hz1,hi⟩:=A.out
  obtain⟨curx,hxg,hxs,hxt,hxr⟩:=hR.row
  have hpj:=hR.lt
  have hwrs:=hR.size
  by_cases hj:j<n
  ·have hjz:(j:Int)<(n:Int):=by omega
   have hj1:(j+1)*5≤n*5:=Nat.mul_le_mul_right _ hj
   have hpj1:(p+1)*5≤j*5:=Nat.mul_le_mul_right _ hpj
   have hc:∀ t,t<5→∃ u,wr.cell? ⟨g,j*5+t,none⟩=some u∧flat[j*5+t]?=some u:=fun t ht =>
    ⟨curx[j*5+t]'(by omega),by rw[cell_of_row wr g _ curx 173 (0,0) hxg];exact Array.getElem?_eq_getElem (by omega),by rw[← hxr _ (by omega) (by omega)];exact Array.getElem?_eq_getElem (by omega)⟩
   obtain⟨c0,hc0,hd0⟩:=hc 0 (by omega)
   obtain⟨c1,hc1,hd1⟩:=hc 1 (by omega)
   obtain⟨c2,hc2,hd2⟩:=hc 2 (by omega)
   obtain⟨c3,hc3,hd3⟩:=hc 3 (by omega)
   obtain⟨c4,hc4,hd4⟩:=hc 4 (by omega)
   rw[Nat.add_zero]at hc0
   have o0:=h1c c0 (List.mem_of_getElem? hd0)
   have o1:=h1c c1 (List.mem_of_getElem? hd1)
   have o2:=h1c c2 (List.mem_of_getElem? hd2)
   have o3:=h1c c3 (List.mem_of_getElem? hd3)
   have o4:=h1c c4 (List.mem_of_getElem? hd4)
   have hcells:(flat.drop (j*5)).take 5=[c0,c1,c2,c3,c4]:=by
    refine List.ext_getElem? fun i=>?_
    rw[List.getElem?_take]
    split
    ·rename_i hi
     rw[List.getElem?_drop]
     rcases i with _|(_|(_|(_|(_|_))))
     all_goals first|assumption|omega
    ·rename_i hi
     exact (List.getElem?_eq_none (by simp only[List.length_cons,List.length_nil];omega)).symm
   have hA0:(wr.alloc (.cells #[Value.int IntKind.i64 0,Value.int IntKind.i64 0,Value.int IntKind.i64 0,Value.bool false,Value.int IntKind.i64 0] 173)).heap[wr.heap.size]?=some (.cells #[Value.int IntKind.i64 0,Value.int IntKind.i64 0,Value.int IntKind.i64 0,Value.bool false,Value.int IntKind.i64 0] 173 (0,0)):=heap_alloc_new wr _
   obtain⟨W1,e0,k0,s0⟩:=bM (P:=Tryz.prog) (wr.alloc (.cells #[Value.int IntKind.i64 0,Value.int IntKind.i64 0,Value.int IntKind.i64 0,Value.bool false,Value.int IntKind.i64 0] 173)) wr.heap.size 0 _ 173 c0 hA0 (by simp) o0
   obtain⟨W2,e1,k1,s1⟩:=bM (P:=Tryz.prog) W1 wr.heap.size 1 _ 173 c1 k0 (by simp) o1
   obtain⟨W3,e2,k2,s2⟩:=bM (P:=Tryz.prog) W2 wr.heap.size 2 _ 173 c2 k1 (by simp) o2
   obtain⟨W4,e3,k3,s3⟩:=bM (P:=Tryz.prog) W3 wr.heap.size 3 _ 173 c3 k2 (by simp) o3
   obtain⟨W5,e4,k4,s4⟩:=bM (P:=Tryz.prog) W4 wr.heap.size 4 _ 173 c4 k3 (by simp) o4
   have kB:W5.heap[wr.heap.size]?=some (.cells #[c0,c1,c2,c3,c4] 173 (0,0)):=k4
   have sB:fm wr.heap.size (wr.alloc (.cells #[Value.int IntKind.i64 0,Value.int IntKind.i64 0,Value.int IntKind.i64 0,Value.bool false,Value.int IntKind.i64 0] 173)) W5:=((((s0.trans s1).trans s2).trans s3).trans s4)
   have szB:W5.heap.size=wr.heap.size+1:=by rw[sB.size];simp
   have oB:∀ k,k<wr.heap.size→W5.heap[k]?=wr.heap[k]?:=fun k hk=>(sB.other k (by omega)).trans (Go.heap_alloc_old wr _ hk)
   have l0:W5.cell? ⟨wr.heap.size,0,none⟩=some c0:=by rw[cell_of_row _ _ _ _ _ _ kB];rfl
   have l1:W5.cell? ⟨wr.heap.size,1,none⟩=some c1:=by rw[cell_of_row _ _ _ _ _ _ kB];rfl
   have l2:W5.cell? ⟨wr.heap.size,2,none⟩=some c2:=by rw[cell_of_row _ _ _ _ _ _ kB];rfl
   have l3:W5.cell? ⟨wr.heap.size,3,none⟩=some c3:=by rw[cell_of_row _ _ _ _ _ _ kB];rfl
   have l4:W5.cell? ⟨wr.heap.size,4,none⟩=some c4:=by rw[cell_of_row _ _ _ _ _ _ kB];rfl
   have cφ:=hφ W5 (by omega) (fun k hk hn=>(oB k (by omega)).trans (hR.other k hk hn)) j hj
   rw[hcells]at cφ
   have hwj:IntKind.i64.wrap ((j:Int)+1)=((j+1:Nat):Int):=by rw[IntKind.wrap_i64];omega
   have hwp:IntKind.i64.wrap ((p:Int)+1)=((p+1:Nat):Int):=by rw[IntKind.wrap_i64];omega
   have hpz:(p:Int)<(n:Int):=by omega
   have B:Aside (wr.heap[g]?=some (.cells curx 173 (0,0))∧curx.size=cur.size∧dI w g n 5 173 cur.size del flat p j wr∧(flat.drop (j*5)).take 5=[c0,c1,c2,c3,c4]∧W5.heap[wr.heap.size]?=some (.cells #[c0,c1,c2,c3,c4] 173 (0,0))∧fm wr.heap.size (wr.alloc (.cells #[Value.int IntKind.i64 0,Value.int IntKind.i64 0,Value.int IntKind.i64 0,Value.bool false,Value.int IntKind.i64 0] 173)) W5∧W5.heap.size=wr.heap.size+1∧(∀ k,k<wr.heap.size→W5.heap[k]?=wr.heap[k]?)∧w.heap.size≤wr.heap.size∧(j+1)*5≤n*5∧(p+1)*5≤j*5∧n*5≤cur.size∧g<w.heap.size):=⟨hxg,hxs,hR,hcells,kB,sB,szB,oB,hwrs,hj1,hpj1,hncs,hgs⟩
   clear hkeep0 hfl htake hφ h1c hcs hg hdel0 hcm hncs hgs hzv hz1 hi hxg hxs hxt hxr hwrs hj1 hpj1 hc hcells hA0 kB sB szB oB k0 k1 k2 k3 k4 s0 s1 s2 s3 s4 hd0 hd1 hd2 hd3 hd4
   cases hdj:del j with
   |true =>
    rw[hdj]at cφ
    have D:Aside (del j=true∧dI w g n 5 173 cur.size del flat p j wr):=⟨hdj,hR⟩
    clear hdj hR
    go_wp2
    refine cφ.mono ?_
    rintro e W' ⟨rfl,hb1⟩
    go_wp2
    go_roundg (gk-1)
    case measure=>omega
    case rel =>
     obtain⟨hxg,hxs,_,hcells,kB,sB,szB,oB,hwrs,hj1,hpj1,hncs,hgs⟩:=B.out
     exact⟨p,j+1,by first|rfl|simp,by first|rfl|simp,by omega,by omega,D.out.2.skip D.out.1 (hb1.os.trans sB.os) (hb1.tape.trans sB.tape) (hb1.output.trans sB.output) (by have:=hb1.size;omega) (fun k hk=>(hb1.block k (by omega)).trans (oB k hk)) hgs⟩
   |false =>
    rw[hdj]at cφ
    have D:Aside (del j=false∧dI w g n 5 173 cur.size del flat p j wr):=⟨hdj,hR⟩
    clear hdj hR
    go_wp2
    refine cφ.mono ?_
    rintro e W' ⟨rfl,hb1⟩
    obtain⟨hxg,hxs,hR,hcells,kB,sB,szB,oB,hwrs,hj1,hpj1,hncs,hgs⟩:=B.out
    have kC:W'.heap[wr.heap.size]?=some (.cells #[c0,c1,c2,c3,c4] 173 (0,0)):=(hb1.block _ (by omega)).trans kB
    have rC:W'.heap[g]?=some (.cells curx 173 (0,0)):=(hb1.block _ (by omega)).trans ((oB g (by omega)).trans hxg)
    have m0:W'.cell? ⟨wr.heap.size,0,none⟩=some c0:=by rw[cell_of_row _ _ _ _ _ _ kC];rfl
    have m1:W'.cell? ⟨wr.heap.size,1,none⟩=some c1:=by rw[cell_of_row _ _ _ _ _ _ kC];rfl
    have m2:W'.cell? ⟨wr.heap.size,2,none⟩=some c2:=by rw[cell_of_row _ _ _ _ _ _ kC];rfl
    have m3:W'.cell? ⟨wr.heap.size,3,none⟩=some c3:=by rw[cell_of_row _ _ _ _ _ _ kC];rfl
    have m4:W'.cell? ⟨wr.heap.size,4,none⟩=some c4:=by rw[cell_of_row _ _ _ _ _ _ kC];rfl
    obtain⟨V1,f0,q0,r0⟩:=bM (P:=Tryz.prog) W' g (p*5) _ 173 c0 rC (by (try simp only[Array.size_setIfInBounds]);omega) o0
    obtain⟨V2,f1,q1,r1⟩:=bM (P:=Tryz.prog) V1 g (p*5+1) _ 173 c1 q0 (by (try simp only[Array.size_setIfInBounds]);omega) o1
    obtain⟨V3,f2,q2,r2⟩:=bM (P:=Tryz.prog) V2 g (p*5+2) _ 173 c2 q1 (by (try simp only[Array.size_setIfInBounds]);omega) o2
    obtain⟨V4,f3,q3,r3⟩:=bM (P:=Tryz.prog) V3 g (p*5+3) _ 173 c3 q2 (by (try simp only[Array.size_setIfInBounds]);omega) o3
    obtain⟨V5,f4,q4,r4⟩:=bM (P:=Tryz.prog) V4 g (p*5+4) _ 173 c4 q3 (by (try simp only[Array.size_setIfInBounds]);omega) o4
    have qV:V5.heap[g]?=some (.cells (fp curx (p*5) [c0,c1,c2,c3,c4]) 173 (0,0)):=q4
    have sV:fm g W' V5:=((((r0.trans r1).trans r2).trans r3).trans r4)
    have E2:Aside (V5.heap[g]?=some (.cells (fp curx (p*5) [c0,c1,c2,c3,c4]) 173 (0,0))∧fm g W' V5∧Below W5.heap.size W5 W'):=⟨qV,sV,hb1⟩
    clear qV sV hb1 hxg hxs hR hcells kB sB szB oB hwrs hj1 hpj1 hncs hgs kC rC q0 q1 q2 q3 q4 r0 r1 r2 r3 r4 cφ
    go_wp2
    go_roundg (gk-1)
    case measure=>omega
    case rel =>
     obtain⟨hxg,hxs,_,hcells,kB,sB,szB,oB,hwrs,hj1,hpj1,hncs,hgs⟩:=B.out
     obtain⟨qV,sV,hb1⟩:=E2.out
     have hbs:=hb1.size
     have hvs:=sV.size
     exact⟨p+1,j+1,by first|rfl|simp,by first|rfl|simp,by omega,by omega,D.out.2.keep hxg D.out.1 (sV.os.trans (hb1.os.trans sB.os)) (sV.tape.trans (hb1.tape.trans sB.tape)) (sV.output.trans (hb1.output.trans sB.output)) (by omega)
      (fun k hk hn=>(sV.other k hn).trans ((hb1.block k (by omega)).trans (oB k hk))) hj hncs qV rfl hcells⟩
  ·have hjn':j=n:=by omega
   subst hjn'
   have hjz:¬ ((j:Int)<(j:Int)):=by omega
   have hp0':(0:Int)≤(p:Int):=by omega
   have hpz:¬ (cap=p):=by omega
   have hpn:p≤j:=by omega
   have hpc:p≤cap:=by omega
   obtain⟨cur',hclr,hcs1,hcs2⟩:=lj (P:=Tryz.prog) wr 37 173 inf z Tryz.underlying37 hi hzv g (p*5) (j-p) (cap-p) curx 173 hxg (by omega) (by rw[hz1];simp only[List.size_toArray,List.length_cons,List.length_nil];rw[← Nat.add_mul];have:(p+(j-p))*5≤cap*5:=Nat.mul_le_mul_right _ (by omega);omega) (by rw[hz1];simp[Value.oneCell'])
   have B:Aside (wr.heap[g]?=some (.cells curx 173 (0,0))∧curx.size=cur.size∧dI w g j 5 173 cur.size del flat p j wr∧curx.toList.take (p*5)=eQ 5 del flat j∧cur'.size=curx.size∧cur'.toList.take (p*5)=curx.toList.take (p*5)∧cap≤maxLen∧cap*5≤cur.size∧flat.length=j*5):=⟨hxg,hxs,hR,hxt,hcs1,hcs2,hcm,hcs,hfl⟩
   clear hkeep0 hfl htake hφ h1c hcs hg hdel0 hcm hncs hgs hzv hz1 hi hxg hxs hxt hxr hwrs hR hcs1 hcs2
   go_wp2
   go_ret
   obtain⟨hxg,hxs,hR,hxt,hcs1,hcs2,hcm,hcs,hfl⟩:=B.out
   have hlen:=nJ (s:=5) (del:=del) (flat:=flat) (j:=j) (by omega)
   have hcnt:=hR.cnt
   refine⟨.slice (some ⟨g,0,none⟩) p cap,rfl,⟨hlen,.inr ⟨g,cap,cur',by rw[hcnt],setRow_heap wr g curx cur' 173 (0,0) hxg,by omega,hcm,by omega,by rw[← hcnt,hcs2,hxt]⟩⟩,⟨hR.os,hR.tape,hR.output,by simpa using hR.size,fun k hk hn=>(setRow_other wr g k cur' (fun h=>hn (by rw[h]))).trans (hR.other k hk (fun h=>hn (by rw[h])))⟩,rfl⟩
set_option maxHeartbeats 4000000 in
theorem del_none (w:World)(v0 fv:Value)(hidx:Calls Tryz.prog 290 #[v0,fv] w fun e w'=>e=.returned (.int .i64 (-1))∧Below w.heap.size w w') :
  Calls Tryz.prog 344 #[v0,fv] w fun e w'=>e=.returned v0∧Below w.heap.size w w':=by
 have mixed:Tryz.prog.follows .mixedOrders=true:=by kernel_rfl
 have eI:∀ args w,(callFunc 290 args).run Tryz.prog w=.ok (.enter 290 args) w:=fun args w=>d4 Tryz.func290 (by kernel_rfl) rfl args w
 go_enter Tryz.func344,Tryz.ntmps344
 go_wp2_with (go_at_fn 290;refine hidx.mono ?_;rintro e W ⟨rfl,hb0⟩)
 go_ret
 exact⟨rfl,hb0⟩
theorem walk:oZ Tryz.prog 344 290 173 5 where
 none_:=fun w v0 fv n flat _ h=>del_none w v0 fv h
 some_:=fun w g n cap flat fi caps del p0 hrow h1 ef hp hd hk hφ hidx=>by
  have q1:(Tryz.prog.info? 173).isSome=true:=by kernel_rfl
  have q2:((Tryz.prog.info? 173).bind fun i=>i.zero).map (fun z=>z.cells)=some #[Value.int IntKind.i64 0,Value.int IntKind.i64 0,Value.int IntKind.i64 0,Value.bool false,Value.int IntKind.i64 0]:=by kernel_rfl
  obtain⟨inf,hi⟩:=Option.isSome_iff_exists.1 q1
  rw[hi]at q2
  simp only[Option.bind_some,Option.map_eq_some_iff]at q2
  obtain⟨z,hz,hzs⟩:=q2
  obtain⟨hfl,⟨h0,_⟩|⟨g',cap',cur,h0,hg,hnc,hcm,hcs,htake⟩⟩:=hrow
  ·cases h0
  ·simp only[Value.slice.injEq,Option.some.injEq,Addr.mk.injEq,and_true,true_and]at h0
   obtain⟨rfl,rfl⟩:=h0
   exact del_walk w g n cap cur flat inf z hi hz hzs hg hcm hcs htake hfl h1 hnc fi caps ef del p0 hp hd hk hφ hidx
end Q9
end Go.Proofs.YthgnfidnmnkeaaaGreatEv
