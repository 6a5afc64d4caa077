/- slices.DeleteFunc, walked. Printed by delete.py. -/
import Derived.Test.YtaegajachoklkaaGreatProg
import Derived.Test.YtaegajachoklkaaGreatEvS
import Derived.Test.YtaegajachoklkaaGreatE6
import Derived.Shelf.Spec.SlicesInsert
import Derived.Deep.LoopGhost
set_option linter.unusedVariables false
set_option maxRecDepth 100000
set_option linter.unusedVariables false
set_option linter.unusedSimpArgs false
open Array renaming size_setIfInBounds->AU,getElem?_eq_getElem->AW
open Go.IntKind renaming wrap_i64->AX
open List renaming mem_of_getElem?->AV,getElem?_take->AY,length_cons->AZ,length_nil->BA
open Nat renaming mul_le_mul_right->AT
namespace Go.Proofs.YtaegajachoklkaaGreatEv
open Go Go.Proofs Go.Shelf Go.RowKit Go.Lib
namespace Q6
set_option maxHeartbeats 4000000 in
theorem del_walk (w:World)(g n O:Nat)(cur:Array Value)(flat:List Value)(b5:TypeInfo)(z:Value)(hi:Tryz.prog.info? 61=some b5)(b0:b5.zero=some z)(a6:z.cells=#[Value.int IntKind.i64 0,Value.int IntKind.i64 0,Value.int IntKind.i64 0,Value.slice none 0 0])
  (hg:w.heap[g]?=some (.cells cur 61 (0,0))) (a1:O<=maxLen) (a5:O*4<=cur.size) (M:cur.toList.take (n*4)=flat) (a9:flat.length=n*4) (a2:∀ u∈flat,u.oneCell'=true) (d2:n<=O)
  (fi:Nat) (caps:Array Value) (ef:gv Tryz.prog fi) (del:Nat->Bool) (p0:Nat) (d1:p0<n) (J:del p0=true) (H:∀ j,j<p0->del j=false)
  (hφ:(∀ w1:World,w.heap.size<=w1.heap.size->(∀ k,k<w.heap.size->k≠g->w1.heap[k]?=w.heap[k]?)->∀ j,j<n->Calls Tryz.prog fi (#[.agg ((flat.drop (j*4)).take 4).toArray]++caps) w1 (λe w2=>e=.returned (.bool (del j))/\Below w1.heap.size w1 w2)))
  (c6:Calls Tryz.prog 82 #[.slice (some ⟨g,0,none⟩) n O,.func (.func fi) #[] caps] w λe w'=>e=.returned (.int .i64 p0)/\Below w.heap.size w w') :
  Calls Tryz.prog 173 #[.slice (some ⟨g,0,none⟩) n O,.func (.func fi) #[] caps] w λe w'=>∃ v',e=.returned v'/\Row w' 61 4 v' (dE del n) (gl 4 del flat n)/\w.grownBy w' (some g)/\v'.ownBlock=some g:=by
 have d5:O<=9223372036854775807:=by simp only[maxLen]at a1;omega
 have hz:¬ ((p0:Int)=-1):=by omega
 have mixed:Tryz.prog.follows .mixedOrders=true:=by kernel_rfl
 have dd:IntKind.i64.wrap ((p0:Int)+1)=((p0+1:Nat):Int):=by rw[AX];omega
 have eI:∀ a0 w,(callFunc 82 a0).run Tryz.prog w=.ok (.enter 82 a0) w:=λa0 w=>fC Tryz.func82 (by kernel_rfl) rfl a0 w
 have e4:∀ a0 w,(callFunc fi a0).run Tryz.prog w=.ok (.enter fi a0) w:=ef;have Y:g<w.heap.size:=(Array.getElem?_eq_some_iff.1 hg).1;have I:n*4<=cur.size:=Nat.le_trans (AT _ d2) a5;have A:Aside ((∀ j,j<p0->del j=false)/\flat.length=n*4/\cur.toList.take (n*4)=flat/\(∀ w1:World,w.heap.size<=w1.heap.size->(∀ k,k<w.heap.size->k≠g->w1.heap[k]?=w.heap[k]?)->∀ j,j<n->Calls Tryz.prog fi (#[.agg ((flat.drop (j*4)).take 4).toArray]++caps) w1 (λe w2=>e=.returned (.bool (del j))/\Below w1.heap.size w1 w2))/\(∀ u∈flat,u.oneCell'=true)/\O*4<=cur.size/\w.heap[g]?=some (.cells cur 61 (0,0))/\del p0=true/\O<=maxLen/\n*4<=cur.size/\g<w.heap.size/\b5.zero=some z/\z.cells=#[Value.int IntKind.i64 0,Value.int IntKind.i64 0,Value.int IntKind.i64 0,Value.slice none 0 0]/\Tryz.prog.info? 61=some b5):=⟨H,a9,M,hφ,a2,a5,hg,J,a1,I,Y,b0,a6,hi⟩;clear H a9 M hφ a2 a5 hg J a1 I Y b0 a6 hi
 go_enter Tryz.func173,Tryz.ntmps173
 go_wp2_with (go_at_fn 82;refine c6.mono ?_;rintro e W ⟨rfl,b3⟩)
 go_loopg [5,6] n (λk s5 s6 wx=>∃ p j:Nat,s5=.int .i64 p/\s6=.int .i64 j/\j<=n/\n<=j+k/\gm w g n 4 61 cur.size del flat p j wx)
 case atStart =>
  obtain⟨H,a9,M,hφ,a2,a5,hg,J,a1,I,Y,b0,a6,hi⟩:=A.out;have d4:(p0+1)*4<=n*4:=AT _ d1;have hk:=tI (s:=4) (flat:=flat) H (by omega);refine⟨p0,p0+1,rfl,by first|rfl|simp,by omega,by omega,b3.os,b3.tape,b3.output,b3.size,λk hk _=>b3.block k hk,⟨cur,(b3.block g Y).trans hg,rfl,?_,λt _ ht=>?_⟩,?_,by omega⟩
  ·simp only[gl,J,if_true,List.append_nil];rw[hk.1,<- M,List.take_take,Nat.min_eq_left (by omega)]
  ·rw[<- M,AY,if_pos ht,Array.getElem?_toList]
  ·simp only[dE,J,if_true,Nat.add_zero,hk.2]
 case round =>
  obtain⟨p,j,rfl,rfl,ej,dc,hR⟩:=hrel;obtain⟨H,a9,M,hφ,a2,a5,hg,J,a1,I,Y,b0,a6,hi⟩:=A.out;obtain⟨r,X,a4,ba,bl⟩:=hR.row;have cy:=hR.lt;have Z:=hR.size;by_cases hj:j<n
  ·have cw:(j:Int)<(n:Int):=by omega
   have b4:(j+1)*4<=n*4:=AT _ hj;have a3:(p+1)*4<=j*4:=AT _ cy;have hc:∀ t,t<4->∃ u,wr.cell? ⟨g,j*4+t,none⟩=some u/\flat[j*4+t]?=some u:=λt ht =>
    ⟨r[j*4+t]'(by omega),by rw[cell_of_row wr g _ r 61 (0,0) X];exact AW (by omega),by rw[<- bl _ (by omega) (by omega)];exact AW (by omega)⟩
   obtain⟨c0,cu,cb⟩:=hc 0 (by omega);obtain⟨c1,e6,bx⟩:=hc 1 (by omega);obtain⟨c2,eg,c4⟩:=hc 2 (by omega);obtain⟨c3,en,cp⟩:=hc 3 (by omega);rw[Nat.add_zero]at cu;have o0:=a2 c0 (AV cb);have o1:=a2 c1 (AV bx);have o2:=a2 c2 (AV c4);have o3:=a2 c3 (AV cp);have y:(flat.drop (j*4)).take 4=[c0,c1,c2,c3]:=by
    refine List.ext_getElem? λi=>?_
    rw[AY];split
    ·rename_i hi;rw[List.getElem?_drop];rcases i with _|(_|(_|(_|_)));all_goals first|assumption|omega
    ·rename_i hi;exact (List.getElem?_eq_none (by simp only[AZ,BA];omega)).symm
   have bn:(wr.alloc (.cells #[Value.int IntKind.i64 0,Value.int IntKind.i64 0,Value.int IntKind.i64 0,Value.slice none 0 0] 61)).heap[wr.heap.size]?=some (.cells #[Value.int IntKind.i64 0,Value.int IntKind.i64 0,Value.int IntKind.i64 0,Value.slice none 0 0] 61 (0,0)):=heap_alloc_new wr _;obtain⟨W1,e0,k0,s0⟩:=fk (P:=Tryz.prog) (wr.alloc (.cells #[Value.int IntKind.i64 0,Value.int IntKind.i64 0,Value.int IntKind.i64 0,Value.slice none 0 0] 61)) wr.heap.size 0 _ 61 c0 bn (by simp) o0;obtain⟨W2,e1,k1,s1⟩:=fk (P:=Tryz.prog) W1 wr.heap.size 1 _ 61 c1 k0 (by simp) o1;obtain⟨W3,e2,k2,s2⟩:=fk (P:=Tryz.prog) W2 wr.heap.size 2 _ 61 c2 k1 (by simp) o2;obtain⟨W4,e3,k3,s3⟩:=fk (P:=Tryz.prog) W3 wr.heap.size 3 _ 61 c3 k2 (by simp) o3;have kB:W4.heap[wr.heap.size]?=some (.cells #[c0,c1,c2,c3] 61 (0,0)):=k3;have sB:jd wr.heap.size (wr.alloc (.cells #[Value.int IntKind.i64 0,Value.int IntKind.i64 0,Value.int IntKind.i64 0,Value.slice none 0 0] 61)) W4:=(((s0.trans s1).trans s2).trans s3);have szB:W4.heap.size=wr.heap.size+1:=by rw[sB.size];simp
   have oB:∀ k,k<wr.heap.size->W4.heap[k]?=wr.heap[k]?:=λk hk=>(sB.other k (by omega)).trans (Go.heap_alloc_old wr _ hk)
   have l0:W4.cell? ⟨wr.heap.size,0,none⟩=some c0:=by rw[cell_of_row _ _ _ _ _ _ kB];rfl
   have l1:W4.cell? ⟨wr.heap.size,1,none⟩=some c1:=by rw[cell_of_row _ _ _ _ _ _ kB];rfl
   have l2:W4.cell? ⟨wr.heap.size,2,none⟩=some c2:=by rw[cell_of_row _ _ _ _ _ _ kB];rfl
   have l3:W4.cell? ⟨wr.heap.size,3,none⟩=some c3:=by rw[cell_of_row _ _ _ _ _ _ kB];rfl
   have cφ:=hφ W4 (by omega) (λk hk hn=>(oB k (by omega)).trans (hR.other k hk hn)) j hj;rw[y]at cφ;have em:IntKind.i64.wrap ((j:Int)+1)=((j+1:Nat):Int):=by rw[AX];omega
   have ec:IntKind.i64.wrap ((p:Int)+1)=((p+1:Nat):Int):=by rw[AX];omega
   have cx:(p:Int)<(n:Int):=by omega
   have B:Aside (wr.heap[g]?=some (.cells r 61 (0,0))/\r.size=cur.size/\gm w g n 4 61 cur.size del flat p j wr/\(flat.drop (j*4)).take 4=[c0,c1,c2,c3]/\W4.heap[wr.heap.size]?=some (.cells #[c0,c1,c2,c3] 61 (0,0))/\jd wr.heap.size (wr.alloc (.cells #[Value.int IntKind.i64 0,Value.int IntKind.i64 0,Value.int IntKind.i64 0,Value.slice none 0 0] 61)) W4/\W4.heap.size=wr.heap.size+1/\(∀ k,k<wr.heap.size->W4.heap[k]?=wr.heap[k]?)/\w.heap.size<=wr.heap.size/\(j+1)*4<=n*4/\(p+1)*4<=j*4/\n*4<=cur.size/\g<w.heap.size):=⟨X,a4,hR,y,kB,sB,szB,oB,Z,b4,a3,I,Y⟩;clear H a9 M hφ a2 a5 hg J a1 I Y b0 a6 hi X a4 ba bl Z b4 a3 hc y bn kB sB szB oB k0 k1 k2 k3 s0 s1 s2 s3 cb bx c4 cp;cases b2:del j with
   |true =>
    rw[b2]at cφ;have D:Aside (del j=true/\gm w g n 4 61 cur.size del flat p j wr):=⟨b2,hR⟩;clear b2 hR
    go_wp2
    refine cφ.mono ?_;rintro e W' ⟨rfl,R⟩
    go_wp2
    go_roundg (gk-1)
    case measure=>omega
    case rel =>
     obtain⟨X,a4,_,y,kB,sB,szB,oB,Z,b4,a3,I,Y⟩:=B.out;exact⟨p,j+1,by first|rfl|simp,by first|rfl|simp,by omega,by omega,D.out.2.skip D.out.1 (R.os.trans sB.os) (R.tape.trans sB.tape) (R.output.trans sB.output) (by have:=R.size;omega) (λk hk=>(R.block k (by omega)).trans (oB k hk)) Y⟩
   |false =>
    rw[b2]at cφ;have D:Aside (del j=false/\gm w g n 4 61 cur.size del flat p j wr):=⟨b2,hR⟩;clear b2 hR
    go_wp2
    refine cφ.mono ?_;rintro e W' ⟨rfl,R⟩;obtain⟨X,a4,hR,y,kB,sB,szB,oB,Z,b4,a3,I,Y⟩:=B.out;have kC:W'.heap[wr.heap.size]?=some (.cells #[c0,c1,c2,c3] 61 (0,0)):=(R.block _ (by omega)).trans kB;have rC:W'.heap[g]?=some (.cells r 61 (0,0)):=(R.block _ (by omega)).trans ((oB g (by omega)).trans X);have m0:W'.cell? ⟨wr.heap.size,0,none⟩=some c0:=by rw[cell_of_row _ _ _ _ _ _ kC];rfl
    have m1:W'.cell? ⟨wr.heap.size,1,none⟩=some c1:=by rw[cell_of_row _ _ _ _ _ _ kC];rfl
    have m2:W'.cell? ⟨wr.heap.size,2,none⟩=some c2:=by rw[cell_of_row _ _ _ _ _ _ kC];rfl
    have m3:W'.cell? ⟨wr.heap.size,3,none⟩=some c3:=by rw[cell_of_row _ _ _ _ _ _ kC];rfl
    obtain⟨V1,f0,q0,r0⟩:=fk (P:=Tryz.prog) W' g (p*4) _ 61 c0 rC (by (try simp only[AU]);omega) o0;obtain⟨V2,f1,q1,r1⟩:=fk (P:=Tryz.prog) V1 g (p*4+1) _ 61 c1 q0 (by (try simp only[AU]);omega) o1;obtain⟨V3,f2,q2,r2⟩:=fk (P:=Tryz.prog) V2 g (p*4+2) _ 61 c2 q1 (by (try simp only[AU]);omega) o2;obtain⟨V4,f3,q3,r3⟩:=fk (P:=Tryz.prog) V3 g (p*4+3) _ 61 c3 q2 (by (try simp only[AU]);omega) o3;have qV:V4.heap[g]?=some (.cells (gP r (p*4) [c0,c1,c2,c3]) 61 (0,0)):=q3;have sV:jd g W' V4:=(((r0.trans r1).trans r2).trans r3);have E2:Aside (V4.heap[g]?=some (.cells (gP r (p*4) [c0,c1,c2,c3]) 61 (0,0))/\jd g W' V4/\Below W4.heap.size W4 W'):=⟨qV,sV,R⟩;clear qV sV R X a4 hR y kB sB szB oB Z b4 a3 I Y kC rC q0 q1 q2 q3 r0 r1 r2 r3 cφ
    go_wp2
    go_roundg (gk-1)
    case measure=>omega
    case rel =>
     obtain⟨X,a4,_,y,kB,sB,szB,oB,Z,b4,a3,I,Y⟩:=B.out;obtain⟨qV,sV,R⟩:=E2.out;have e7:=R.size;have ed:=sV.size;exact⟨p+1,j+1,by first|rfl|simp,by first|rfl|simp,by omega,by omega,D.out.2.keep X D.out.1 (sV.os.trans (R.os.trans sB.os)) (sV.tape.trans (R.tape.trans sB.tape)) (sV.output.trans (R.output.trans sB.output)) (by omega)
      (λk hk hn=>(sV.other k hn).trans ((R.block k (by omega)).trans (oB k hk))) hj I qV rfl y⟩
  ·have cc:j=n:=by omega
   subst cc;have cw:¬ ((j:Int)<(j:Int)):=by omega
   have d6:(0:Int)<=(p:Int):=by omega
   have cx:¬ (O=p):=by omega
   have e5:p<=j:=by omega
   have eb:p<=O:=by omega
   obtain⟨ad,d3,b9,b1⟩:=rH (P:=Tryz.prog) wr 27 61 b5 z Tryz.underlying27 hi b0 g (p*4) (j-p) (O-p) r 61 X (by omega) (by rw[a6];simp only[List.size_toArray,AZ,BA];rw[<- Nat.add_mul];have:(p+(j-p))*4<=O*4:=AT _ (by omega);omega) (by rw[a6];simp[Value.oneCell']);have B:Aside (wr.heap[g]?=some (.cells r 61 (0,0))/\r.size=cur.size/\gm w g j 4 61 cur.size del flat p j wr/\r.toList.take (p*4)=gl 4 del flat j/\ad.size=r.size/\ad.toList.take (p*4)=r.toList.take (p*4)/\O<=maxLen/\O*4<=cur.size/\flat.length=j*4):=⟨X,a4,hR,ba,b9,b1,a1,a5,a9⟩;clear H a9 M hφ a2 a5 hg J a1 I Y b0 a6 hi X a4 ba bl Z hR b9 b1
   go_wp2
   go_ret
   obtain⟨X,a4,hR,ba,b9,b1,a1,a5,a9⟩:=B.out;have c5:=tJ (s:=4) (del:=del) (flat:=flat) (j:=j) (by omega);have bb:=hR.cnt;refine⟨.slice (some ⟨g,0,none⟩) p O,rfl,⟨c5,.inr ⟨g,O,ad,_,by rw[bb],setRow_heap wr g r ad 61 (0,0) X,by omega,.inl ⟨rfl,a1⟩,by omega,by rw[<- bb,b1,ba]⟩⟩,⟨hR.os,hR.tape,hR.output,by simpa using hR.size,λk hk hn=>(setRow_other wr g k ad (λh=>hn (by rw[h]))).trans (hR.other k hk (λh=>hn (by rw[h])))⟩,rfl⟩
set_option maxHeartbeats 4000000 in
theorem del_none (w:World)(y I:Value)(u:Calls Tryz.prog 82 #[y,I] w λe z=>e=.returned (.int .i64 (-1))/\Below w.heap.size w z) :
  Calls Tryz.prog 173 #[y,I] w λe z=>e=.returned y/\Below w.heap.size w z:=by
 have mixed:Tryz.prog.follows .mixedOrders=true:=by kernel_rfl
 have J:∀ r w,(callFunc 82 r).run Tryz.prog w=.ok (.enter 82 r) w:=λr w=>fC Tryz.func82 (by kernel_rfl) rfl r w
 go_enter Tryz.func173,Tryz.ntmps173
 go_wp2_with (go_at_fn 82;refine u.mono ?_;rintro e W ⟨rfl,H⟩)
 go_ret
 exact⟨rfl,H⟩
theorem walk:uQ Tryz.prog 173 82 61 4 where
 none_:=λw v0 fv n r _ h=>del_none w v0 fv h
 some_:=λw g n O r fi J a2 p0 I h1 ef hp hd hk hφ H=>by
  have q1:(Tryz.prog.info? 61).isSome=true:=by kernel_rfl
  have Z:((Tryz.prog.info? 61).bind λi=>i.zero).map (λz=>z.cells)=some #[Value.int IntKind.i64 0,Value.int IntKind.i64 0,Value.int IntKind.i64 0,Value.slice none 0 0]:=by kernel_rfl
  obtain⟨R,hi⟩:=Option.isSome_iff_exists.1 q1;rw[hi]at Z;simp only[Option.bind_some,Option.map_eq_some_iff]at Z;obtain⟨z,hz,a3⟩:=Z;obtain⟨X,⟨M,_⟩|⟨g',a5,a4,mk,M,hg,Y,a1,a0,u⟩⟩:=I
  ·cases M
  ·simp only[Value.slice.injEq,Option.some.injEq,Addr.mk.injEq,and_true,true_and]at M;obtain⟨rfl,rfl⟩:=M;obtain⟨rfl,y⟩:=a1.elim id (λh=>absurd h.1 (by decide));exact del_walk w g n O a4 r R z hi hz a3 hg y a0 u X h1 Y fi J ef a2 p0 hp hd hk hφ H
end Q6
end Go.Proofs.YtaegajachoklkaaGreatEv
