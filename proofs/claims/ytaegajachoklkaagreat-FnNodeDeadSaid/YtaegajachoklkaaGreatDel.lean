/- slices.DeleteFunc, walked. Printed by delete.py. -/
import Derived.Test.YtaegajachoklkaaGreatProg
import Derived.Test.YtaegajachoklkaaGreatEvS
import Derived.Test.YtaegajachoklkaaGreatE6
import Derived.Shelf.Spec.SlicesInsert
import Derived.Deep.LoopGhost
set_option linter.unusedVariables false
set_option maxRecDepth 100000
set_option linter.unusedVariables false
set_option linter.unusedSimpArgs false
open Array renaming size_setIfInBounds->BK,getElem?_eq_getElem->BN,getElem?_eq_some_iff->BS,getElem?_toList->BW
open Go.Addr.mk renaming injEq->CB
open Go.IntKind renaming wrap_i64->BO
open Go.Value renaming oneCell'->CA
open Go.Value.slice renaming injEq->B4
open List renaming mem_of_getElem?->BM,getElem?_take->BP,length_cons->BQ,length_nil->BR,getElem?_eq_none->BX,getElem?_drop->BY,ext_getElem?->BZ,size_toArray->B3,append_nil->B7,take_take->B9
open Nat renaming mul_le_mul_right->BL,add_zero->BU,min_eq_left->B8
open Option renaming isSome_iff_exists->BT,map_eq_some_iff->BV,bind_some->B6
open Option.some renaming injEq->B5
namespace Go.Proofs.YtaegajachoklkaaGreatEv
open Go Go.Proofs Go.Shelf Go.RowKit Go.Lib
namespace Q4
set_option maxHeartbeats 4000000 in
theorem del_walk (w:World)(g n R:Nat)(cur:Array Value)(flat:List Value)(b9:TypeInfo)(z:Value)(hi:Tryz.prog.info? 61=some b9)(b0:b9.zero=some z)(a6:z.cells=#[Value.int IntKind.i64 0,Value.int IntKind.i64 0,Value.int IntKind.i64 0,Value.slice none 0 0])
  (hg:w.heap[g]?=some (.cells cur 61 (0,0))) (a1:R<=maxLen) (a4:R*4<=cur.size) (M:cur.toList.take (n*4)=flat) (a9:flat.length=n*4) (a2:∀ u∈flat,u.oneCell'=true) (d4:n<=R)
  (fi:Nat) (caps:Array Value) (ef:fT Tryz.prog fi) (del:Nat->Bool) (p0:Nat) (cx:p0<n) (J:del p0=true) (H:∀ j,j<p0->del j=false)
  (hφ:(∀ w1:World,w.heap.size<=w1.heap.size->(∀ k,k<w.heap.size->k≠g->w1.heap[k]?=w.heap[k]?)->∀ j,j<n->Calls Tryz.prog fi (#[.agg ((flat.drop (j*4)).take 4).toArray]++caps) w1 (λe w2=>e=.returned (.bool (del j))/\Below w1.heap.size w1 w2)))
  (cu:Calls Tryz.prog 82 #[.slice (some ⟨g,0,none⟩) n R,.func (.func fi) #[] caps] w λe w'=>e=.returned (.int .i64 p0)/\Below w.heap.size w w') :
  Calls Tryz.prog 173 #[.slice (some ⟨g,0,none⟩) n R,.func (.func fi) #[] caps] w λe w'=>∃ v',e=.returned v'/\Row w' 61 4 v' (dy del n) (fF 4 del flat n)/\w.grownBy w' (some g)/\v'.ownBlock=some g:=by
 have e4:R<=9223372036854775807:=by simp only[maxLen]at a1;omega
 have hz:¬ ((p0:Int)=-1):=by omega
 have mixed:Tryz.prog.follows .mixedOrders=true:=by kernel_rfl
 have eg:IntKind.i64.wrap ((p0:Int)+1)=((p0+1:Nat):Int):=by rw[BO];omega
 have eI:∀ a0 w,(callFunc 82 a0).run Tryz.prog w=.ok (.enter 82 a0) w:=λa0 w=>dZ Tryz.func82 (by kernel_rfl) rfl a0 w
 have en:∀ a0 w,(callFunc fi a0).run Tryz.prog w=.ok (.enter fi a0) w:=ef;have Y:g<w.heap.size:=(BS.1 hg).1;have I:n*4<=cur.size:=Nat.le_trans (BL _ d4) a4;have A:Aside ((∀ j,j<p0->del j=false)/\flat.length=n*4/\cur.toList.take (n*4)=flat/\(∀ w1:World,w.heap.size<=w1.heap.size->(∀ k,k<w.heap.size->k≠g->w1.heap[k]?=w.heap[k]?)->∀ j,j<n->Calls Tryz.prog fi (#[.agg ((flat.drop (j*4)).take 4).toArray]++caps) w1 (λe w2=>e=.returned (.bool (del j))/\Below w1.heap.size w1 w2))/\(∀ u∈flat,u.oneCell'=true)/\R*4<=cur.size/\w.heap[g]?=some (.cells cur 61 (0,0))/\del p0=true/\R<=maxLen/\n*4<=cur.size/\g<w.heap.size/\b9.zero=some z/\z.cells=#[Value.int IntKind.i64 0,Value.int IntKind.i64 0,Value.int IntKind.i64 0,Value.slice none 0 0]/\Tryz.prog.info? 61=some b9):=⟨H,a9,M,hφ,a2,a4,hg,J,a1,I,Y,b0,a6,hi⟩;clear H a9 M hφ a2 a4 hg J a1 I Y b0 a6 hi
 go_enter Tryz.func173,Tryz.ntmps173
 go_wp2_with (go_at_fn 82;refine cu.mono ?_;rintro e W ⟨rfl,b3⟩)
 go_loopg [5,6] n (λk s5 s6 wx=>∃ p j:Nat,s5=.int .i64 p/\s6=.int .i64 j/\j<=n/\n<=j+k/\ee w g n 4 61 cur.size del flat p j wx)
 case atStart =>
  obtain⟨H,a9,M,hφ,a2,a4,hg,J,a1,I,Y,b0,a6,hi⟩:=A.out;have dd:(p0+1)*4<=n*4:=BL _ cx;have hk:=pm (s:=4) (flat:=flat) H (by omega);refine⟨p0,p0+1,rfl,by first|rfl|simp,by omega,by omega,b3.os,b3.tape,b3.output,b3.size,λk hk _=>b3.block k hk,⟨cur,(b3.block g Y).trans hg,rfl,?_,λt _ ht=>?_⟩,?_,by omega⟩
  ·simp only[fF,J,if_true,B7];rw[hk.1,<- M,B9,B8 (by omega)]
  ·rw[<- M,BP,if_pos ht,BW]
  ·simp only[dy,J,if_true,BU,hk.2]
 case round =>
  obtain⟨p,j,rfl,rfl,e7,ed,hR⟩:=hrel;obtain⟨H,a9,M,hφ,a2,a4,hg,J,a1,I,Y,b0,a6,hi⟩:=A.out;obtain⟨r,X,a5,b5,bl⟩:=hR.row;have d3:=hR.lt;have Z:=hR.size;by_cases hj:j<n
  ·have cy:(j:Int)<(n:Int):=by omega
   have b4:(j+1)*4<=n*4:=BL _ hj;have a3:(p+1)*4<=j*4:=BL _ d3;have hc:∀ t,t<4->∃ u,wr.cell? ⟨g,j*4+t,none⟩=some u/\flat[j*4+t]?=some u:=λt ht =>
    ⟨r[j*4+t]'(by omega),by rw[cell_of_row wr g _ r 61 (0,0) X];exact BN (by omega),by rw[<- bl _ (by omega) (by omega)];exact BN (by omega)⟩
   obtain⟨c0,d2,bn⟩:=hc 0 (by omega);obtain⟨c1,ev,cc⟩:=hc 1 (by omega);obtain⟨c2,eb,cw⟩:=hc 2 (by omega);obtain⟨c3,em,cb⟩:=hc 3 (by omega);rw[BU]at d2;have o0:=a2 c0 (BM bn);have o1:=a2 c1 (BM cc);have o2:=a2 c2 (BM cw);have o3:=a2 c3 (BM cb);have y:(flat.drop (j*4)).take 4=[c0,c1,c2,c3]:=by
    refine BZ λi=>?_
    rw[BP];split
    ·rename_i hi;rw[BY];rcases i with _|(_|(_|(_|_)));all_goals first|assumption|omega
    ·rename_i hi;exact (BX (by simp only[BQ,BR];omega)).symm
   have cp:(wr.alloc (.cells #[Value.int IntKind.i64 0,Value.int IntKind.i64 0,Value.int IntKind.i64 0,Value.slice none 0 0] 61)).heap[wr.heap.size]?=some (.cells #[Value.int IntKind.i64 0,Value.int IntKind.i64 0,Value.int IntKind.i64 0,Value.slice none 0 0] 61 (0,0)):=heap_alloc_new wr _;obtain⟨W1,e0,k0,s0⟩:=bY (P:=Tryz.prog) (wr.alloc (.cells #[Value.int IntKind.i64 0,Value.int IntKind.i64 0,Value.int IntKind.i64 0,Value.slice none 0 0] 61)) wr.heap.size 0 _ 61 c0 cp (by simp) o0;obtain⟨W2,e1,k1,s1⟩:=bY (P:=Tryz.prog) W1 wr.heap.size 1 _ 61 c1 k0 (by simp) o1;obtain⟨W3,e2,k2,s2⟩:=bY (P:=Tryz.prog) W2 wr.heap.size 2 _ 61 c2 k1 (by simp) o2;obtain⟨W4,e3,k3,s3⟩:=bY (P:=Tryz.prog) W3 wr.heap.size 3 _ 61 c3 k2 (by simp) o3;have kB:W4.heap[wr.heap.size]?=some (.cells #[c0,c1,c2,c3] 61 (0,0)):=k3;have sB:gh wr.heap.size (wr.alloc (.cells #[Value.int IntKind.i64 0,Value.int IntKind.i64 0,Value.int IntKind.i64 0,Value.slice none 0 0] 61)) W4:=(((s0.trans s1).trans s2).trans s3);have szB:W4.heap.size=wr.heap.size+1:=by rw[sB.size];simp
   have oB:∀ k,k<wr.heap.size->W4.heap[k]?=wr.heap[k]?:=λk hk=>(sB.other k (by omega)).trans (Go.heap_alloc_old wr _ hk)
   have l0:W4.cell? ⟨wr.heap.size,0,none⟩=some c0:=by rw[cell_of_row _ _ _ _ _ _ kB];rfl
   have l1:W4.cell? ⟨wr.heap.size,1,none⟩=some c1:=by rw[cell_of_row _ _ _ _ _ _ kB];rfl
   have l2:W4.cell? ⟨wr.heap.size,2,none⟩=some c2:=by rw[cell_of_row _ _ _ _ _ _ kB];rfl
   have l3:W4.cell? ⟨wr.heap.size,3,none⟩=some c3:=by rw[cell_of_row _ _ _ _ _ _ kB];rfl
   have cφ:=hφ W4 (by omega) (λk hk hn=>(oB k (by omega)).trans (hR.other k hk hn)) j hj;rw[y]at cφ;have ec:IntKind.i64.wrap ((j:Int)+1)=((j+1:Nat):Int):=by rw[BO];omega
   have ej:IntKind.i64.wrap ((p:Int)+1)=((p+1:Nat):Int):=by rw[BO];omega
   have d1:(p:Int)<(n:Int):=by omega
   have B:Aside (wr.heap[g]?=some (.cells r 61 (0,0))/\r.size=cur.size/\ee w g n 4 61 cur.size del flat p j wr/\(flat.drop (j*4)).take 4=[c0,c1,c2,c3]/\W4.heap[wr.heap.size]?=some (.cells #[c0,c1,c2,c3] 61 (0,0))/\gh wr.heap.size (wr.alloc (.cells #[Value.int IntKind.i64 0,Value.int IntKind.i64 0,Value.int IntKind.i64 0,Value.slice none 0 0] 61)) W4/\W4.heap.size=wr.heap.size+1/\(∀ k,k<wr.heap.size->W4.heap[k]?=wr.heap[k]?)/\w.heap.size<=wr.heap.size/\(j+1)*4<=n*4/\(p+1)*4<=j*4/\n*4<=cur.size/\g<w.heap.size):=⟨X,a5,hR,y,kB,sB,szB,oB,Z,b4,a3,I,Y⟩;clear H a9 M hφ a2 a4 hg J a1 I Y b0 a6 hi X a5 b5 bl Z b4 a3 hc y cp kB sB szB oB k0 k1 k2 k3 s0 s1 s2 s3 bn cc cw cb;cases b2:del j with
   |true =>
    rw[b2]at cφ;have D:Aside (del j=true/\ee w g n 4 61 cur.size del flat p j wr):=⟨b2,hR⟩;clear b2 hR
    go_wp2
    refine cφ.mono ?_;rintro e W' ⟨rfl,O⟩
    go_wp2
    go_roundg (gk-1)
    case measure=>omega
    case rel =>
     obtain⟨X,a5,_,y,kB,sB,szB,oB,Z,b4,a3,I,Y⟩:=B.out;exact⟨p,j+1,by first|rfl|simp,by first|rfl|simp,by omega,by omega,D.out.2.skip D.out.1 (O.os.trans sB.os) (O.tape.trans sB.tape) (O.output.trans sB.output) (by have:=O.size;omega) (λk hk=>(O.block k (by omega)).trans (oB k hk)) Y⟩
   |false =>
    rw[b2]at cφ;have D:Aside (del j=false/\ee w g n 4 61 cur.size del flat p j wr):=⟨b2,hR⟩;clear b2 hR
    go_wp2
    refine cφ.mono ?_;rintro e W' ⟨rfl,O⟩;obtain⟨X,a5,hR,y,kB,sB,szB,oB,Z,b4,a3,I,Y⟩:=B.out;have kC:W'.heap[wr.heap.size]?=some (.cells #[c0,c1,c2,c3] 61 (0,0)):=(O.block _ (by omega)).trans kB;have rC:W'.heap[g]?=some (.cells r 61 (0,0)):=(O.block _ (by omega)).trans ((oB g (by omega)).trans X);have m0:W'.cell? ⟨wr.heap.size,0,none⟩=some c0:=by rw[cell_of_row _ _ _ _ _ _ kC];rfl
    have m1:W'.cell? ⟨wr.heap.size,1,none⟩=some c1:=by rw[cell_of_row _ _ _ _ _ _ kC];rfl
    have m2:W'.cell? ⟨wr.heap.size,2,none⟩=some c2:=by rw[cell_of_row _ _ _ _ _ _ kC];rfl
    have m3:W'.cell? ⟨wr.heap.size,3,none⟩=some c3:=by rw[cell_of_row _ _ _ _ _ _ kC];rfl
    obtain⟨V1,f0,q0,r0⟩:=bY (P:=Tryz.prog) W' g (p*4) _ 61 c0 rC (by (try simp only[BK]);omega) o0;obtain⟨V2,f1,q1,r1⟩:=bY (P:=Tryz.prog) V1 g (p*4+1) _ 61 c1 q0 (by (try simp only[BK]);omega) o1;obtain⟨V3,f2,q2,r2⟩:=bY (P:=Tryz.prog) V2 g (p*4+2) _ 61 c2 q1 (by (try simp only[BK]);omega) o2;obtain⟨V4,f3,q3,r3⟩:=bY (P:=Tryz.prog) V3 g (p*4+3) _ 61 c3 q2 (by (try simp only[BK]);omega) o3;have qV:V4.heap[g]?=some (.cells (gi r (p*4) [c0,c1,c2,c3]) 61 (0,0)):=q3;have sV:gh g W' V4:=(((r0.trans r1).trans r2).trans r3);have E2:Aside (V4.heap[g]?=some (.cells (gi r (p*4) [c0,c1,c2,c3]) 61 (0,0))/\gh g W' V4/\Below W4.heap.size W4 W'):=⟨qV,sV,O⟩;clear qV sV O X a5 hR y kB sB szB oB Z b4 a3 I Y kC rC q0 q1 q2 q3 r0 r1 r2 r3 cφ
    go_wp2
    go_roundg (gk-1)
    case measure=>omega
    case rel =>
     obtain⟨X,a5,_,y,kB,sB,szB,oB,Z,b4,a3,I,Y⟩:=B.out;obtain⟨qV,sV,O⟩:=E2.out;have ex:=O.size;have es:=sV.size;exact⟨p+1,j+1,by first|rfl|simp,by first|rfl|simp,by omega,by omega,D.out.2.keep X D.out.1 (sV.os.trans (O.os.trans sB.os)) (sV.tape.trans (O.tape.trans sB.tape)) (sV.output.trans (O.output.trans sB.output)) (by omega)
      (λk hk hn=>(sV.other k hn).trans ((O.block k (by omega)).trans (oB k hk))) hj I qV rfl y⟩
  ·have c4:j=n:=by omega
   subst c4;have cy:¬ ((j:Int)<(j:Int)):=by omega
   have e5:(0:Int)<=(p:Int):=by omega
   have d1:¬ (R=p):=by omega
   have e6:p<=j:=by omega
   have et:p<=R:=by omega
   obtain⟨ad,dc,ba,b1⟩:=mN (P:=Tryz.prog) wr 27 61 b9 z Tryz.underlying27 hi b0 g (p*4) (j-p) (R-p) r 61 X (by omega) (by rw[a6];simp only[B3,BQ,BR];rw[<- Nat.add_mul];have:(p+(j-p))*4<=R*4:=BL _ (by omega);omega) (by rw[a6];simp[CA]);have B:Aside (wr.heap[g]?=some (.cells r 61 (0,0))/\r.size=cur.size/\ee w g j 4 61 cur.size del flat p j wr/\r.toList.take (p*4)=fF 4 del flat j/\ad.size=r.size/\ad.toList.take (p*4)=r.toList.take (p*4)/\R<=maxLen/\R*4<=cur.size/\flat.length=j*4):=⟨X,a5,hR,b5,ba,b1,a1,a4,a9⟩;clear H a9 M hφ a2 a4 hg J a1 I Y b0 a6 hi X a5 b5 bl Z hR ba b1
   go_wp2
   go_ret
   obtain⟨X,a5,hR,b5,ba,b1,a1,a4,a9⟩:=B.out;have bx:=pn (s:=4) (del:=del) (flat:=flat) (j:=j) (by omega);have bb:=hR.cnt;refine⟨.slice (some ⟨g,0,none⟩) p R,rfl,⟨bx,.inr ⟨g,R,ad,_,by rw[bb],setRow_heap wr g r ad 61 (0,0) X,by omega,.inl ⟨rfl,a1⟩,by omega,by rw[<- bb,b1,b5]⟩⟩,⟨hR.os,hR.tape,hR.output,by simpa using hR.size,λk hk hn=>(setRow_other wr g k ad (λh=>hn (by rw[h]))).trans (hR.other k hk (λh=>hn (by rw[h])))⟩,rfl⟩
set_option maxHeartbeats 4000000 in
theorem del_none (w:World)(y I:Value)(u:Calls Tryz.prog 82 #[y,I] w λe z=>e=.returned (.int .i64 (-1))/\Below w.heap.size w z) :
  Calls Tryz.prog 173 #[y,I] w λe z=>e=.returned y/\Below w.heap.size w z:=by
 have mixed:Tryz.prog.follows .mixedOrders=true:=by kernel_rfl
 have J:∀ r w,(callFunc 82 r).run Tryz.prog w=.ok (.enter 82 r) w:=λr w=>dZ Tryz.func82 (by kernel_rfl) rfl r w
 go_enter Tryz.func173,Tryz.ntmps173
 go_wp2_with (go_at_fn 82;refine u.mono ?_;rintro e W ⟨rfl,H⟩)
 go_ret
 exact⟨rfl,H⟩
theorem walk:qX Tryz.prog 173 82 61 4 where
 none_:=λw v0 fv n r _ h=>del_none w v0 fv h
 some_:=λw g n O r fi J Z p0 y h1 ef hp hd hk hφ I=>by
  have q1:(Tryz.prog.info? 61).isSome=true:=by kernel_rfl
  have R:((Tryz.prog.info? 61).bind λi=>i.zero).map (λz=>z.cells)=some #[Value.int IntKind.i64 0,Value.int IntKind.i64 0,Value.int IntKind.i64 0,Value.slice none 0 0]:=by kernel_rfl
  obtain⟨a4,hi⟩:=BT.1 q1;rw[hi]at R;simp only[B6,BV]at R;obtain⟨z,hz,a0⟩:=R;obtain⟨a3,⟨M,_⟩|⟨g',a5,Y,mk,M,hg,a2,X,a1,u⟩⟩:=y
  ·cases M
  ·simp only[B4,B5,CB,and_true,true_and]at M;obtain⟨rfl,rfl⟩:=M;obtain⟨rfl,H⟩:=X.elim id (λh=>absurd h.1 (by decide));exact del_walk w g n O Y r a4 z hi hz a0 hg H a1 u a3 h1 a2 fi J ef Z p0 hp hd hk hφ I
end Q4
namespace Q9
set_option maxHeartbeats 4000000 in
theorem del_walk (w:World)(g n R:Nat)(cur:Array Value)(flat:List Value)(b9:TypeInfo)(z:Value)(hi:Tryz.prog.info? 126=some b9)(b0:b9.zero=some z)(a6:z.cells=#[Value.int IntKind.i64 0,Value.int IntKind.i64 0,Value.int IntKind.i64 0,Value.bool false,Value.int IntKind.i64 0])
  (hg:w.heap[g]?=some (.cells cur 126 (0,0))) (a2:R<=maxLen) (a4:R*5<=cur.size) (M:cur.toList.take (n*5)=flat) (a9:flat.length=n*5) (a1:∀ u∈flat,u.oneCell'=true) (dd:n<=R)
  (fi:Nat) (caps:Array Value) (ef:fT Tryz.prog fi) (del:Nat->Bool) (p0:Nat) (d1:p0<n) (J:del p0=true) (H:∀ j,j<p0->del j=false)
  (hφ:(∀ w1:World,w.heap.size<=w1.heap.size->(∀ k,k<w.heap.size->k≠g->w1.heap[k]?=w.heap[k]?)->∀ j,j<n->Calls Tryz.prog fi (#[.agg ((flat.drop (j*5)).take 5).toArray]++caps) w1 (λe w2=>e=.returned (.bool (del j))/\Below w1.heap.size w1 w2)))
  (cx:Calls Tryz.prog 161 #[.slice (some ⟨g,0,none⟩) n R,.func (.func fi) #[] caps] w λe w'=>e=.returned (.int .i64 p0)/\Below w.heap.size w w') :
  Calls Tryz.prog 246 #[.slice (some ⟨g,0,none⟩) n R,.func (.func fi) #[] caps] w λe w'=>∃ v',e=.returned v'/\Row w' 126 5 v' (dy del n) (fF 5 del flat n)/\w.grownBy w' (some g)/\v'.ownBlock=some g:=by
 have e7:R<=9223372036854775807:=by simp only[maxLen]at a2;omega
 have hz:¬ ((p0:Int)=-1):=by omega
 have mixed:Tryz.prog.follows .mixedOrders=true:=by kernel_rfl
 have es:IntKind.i64.wrap ((p0:Int)+1)=((p0+1:Nat):Int):=by rw[BO];omega
 have eI:∀ a0 w,(callFunc 161 a0).run Tryz.prog w=.ok (.enter 161 a0) w:=λa0 w=>dZ Tryz.func161 (by kernel_rfl) rfl a0 w
 have ex:∀ a0 w,(callFunc fi a0).run Tryz.prog w=.ok (.enter fi a0) w:=ef;have Y:g<w.heap.size:=(BS.1 hg).1;have I:n*5<=cur.size:=Nat.le_trans (BL _ dd) a4;have A:Aside ((∀ j,j<p0->del j=false)/\flat.length=n*5/\cur.toList.take (n*5)=flat/\(∀ w1:World,w.heap.size<=w1.heap.size->(∀ k,k<w.heap.size->k≠g->w1.heap[k]?=w.heap[k]?)->∀ j,j<n->Calls Tryz.prog fi (#[.agg ((flat.drop (j*5)).take 5).toArray]++caps) w1 (λe w2=>e=.returned (.bool (del j))/\Below w1.heap.size w1 w2))/\(∀ u∈flat,u.oneCell'=true)/\R*5<=cur.size/\w.heap[g]?=some (.cells cur 126 (0,0))/\del p0=true/\R<=maxLen/\n*5<=cur.size/\g<w.heap.size/\b9.zero=some z/\z.cells=#[Value.int IntKind.i64 0,Value.int IntKind.i64 0,Value.int IntKind.i64 0,Value.bool false,Value.int IntKind.i64 0]/\Tryz.prog.info? 126=some b9):=⟨H,a9,M,hφ,a1,a4,hg,J,a2,I,Y,b0,a6,hi⟩;clear H a9 M hφ a1 a4 hg J a2 I Y b0 a6 hi
 go_enter Tryz.func246,Tryz.ntmps246
 go_wp2_with (go_at_fn 161;refine cx.mono ?_;rintro e W ⟨rfl,b3⟩)
 go_loopg [5,6] n (λk s5 s6 wx=>∃ p j:Nat,s5=.int .i64 p/\s6=.int .i64 j/\j<=n/\n<=j+k/\ee w g n 5 126 cur.size del flat p j wx)
 case atStart =>
  obtain⟨H,a9,M,hφ,a1,a4,hg,J,a2,I,Y,b0,a6,hi⟩:=A.out;have e6:(p0+1)*5<=n*5:=BL _ d1;have hk:=pm (s:=5) (flat:=flat) H (by omega);refine⟨p0,p0+1,rfl,by first|rfl|simp,by omega,by omega,b3.os,b3.tape,b3.output,b3.size,λk hk _=>b3.block k hk,⟨cur,(b3.block g Y).trans hg,rfl,?_,λt _ ht=>?_⟩,?_,by omega⟩
  ·simp only[fF,J,if_true,B7];rw[hk.1,<- M,B9,B8 (by omega)]
  ·rw[<- M,BP,if_pos ht,BW]
  ·simp only[dy,J,if_true,BU,hk.2]
 case round =>
  obtain⟨p,j,rfl,rfl,ed,en,hR⟩:=hrel;obtain⟨H,a9,M,hφ,a1,a4,hg,J,a2,I,Y,b0,a6,hi⟩:=A.out;obtain⟨r,X,a5,b5,bl⟩:=hR.row;have dc:=hR.lt;have Z:=hR.size;by_cases hj:j<n
  ·have d2:(j:Int)<(n:Int):=by omega
   have b4:(j+1)*5<=n*5:=BL _ hj;have a3:(p+1)*5<=j*5:=BL _ dc;have hc:∀ t,t<5->∃ u,wr.cell? ⟨g,j*5+t,none⟩=some u/\flat[j*5+t]?=some u:=λt ht =>
    ⟨r[j*5+t]'(by omega),by rw[cell_of_row wr g _ r 126 (0,0) X];exact BN (by omega),by rw[<- bl _ (by omega) (by omega)];exact BN (by omega)⟩
   obtain⟨c0,d4,bx⟩:=hc 0 (by omega);obtain⟨c1,f7,cu⟩:=hc 1 (by omega);obtain⟨c2,ej,cy⟩:=hc 2 (by omega);obtain⟨c3,ev,cp⟩:=hc 3 (by omega);obtain⟨c4,eg,bn⟩:=hc 4 (by omega);rw[BU]at d4;have o0:=a1 c0 (BM bx);have o1:=a1 c1 (BM cu);have o2:=a1 c2 (BM cy);have o3:=a1 c3 (BM cp);have o4:=a1 c4 (BM bn);have y:(flat.drop (j*5)).take 5=[c0,c1,c2,c3,c4]:=by
    refine BZ λi=>?_
    rw[BP];split
    ·rename_i hi;rw[BY];rcases i with _|(_|(_|(_|(_|_))));all_goals first|assumption|omega
    ·rename_i hi;exact (BX (by simp only[BQ,BR];omega)).symm
   have cw:(wr.alloc (.cells #[Value.int IntKind.i64 0,Value.int IntKind.i64 0,Value.int IntKind.i64 0,Value.bool false,Value.int IntKind.i64 0] 126)).heap[wr.heap.size]?=some (.cells #[Value.int IntKind.i64 0,Value.int IntKind.i64 0,Value.int IntKind.i64 0,Value.bool false,Value.int IntKind.i64 0] 126 (0,0)):=heap_alloc_new wr _;obtain⟨W1,e0,k0,s0⟩:=bY (P:=Tryz.prog) (wr.alloc (.cells #[Value.int IntKind.i64 0,Value.int IntKind.i64 0,Value.int IntKind.i64 0,Value.bool false,Value.int IntKind.i64 0] 126)) wr.heap.size 0 _ 126 c0 cw (by simp) o0;obtain⟨W2,e1,k1,s1⟩:=bY (P:=Tryz.prog) W1 wr.heap.size 1 _ 126 c1 k0 (by simp) o1;obtain⟨W3,e2,k2,s2⟩:=bY (P:=Tryz.prog) W2 wr.heap.size 2 _ 126 c2 k1 (by simp) o2;obtain⟨W4,e3,k3,s3⟩:=bY (P:=Tryz.prog) W3 wr.heap.size 3 _ 126 c3 k2 (by simp) o3;obtain⟨W5,e4,k4,s4⟩:=bY (P:=Tryz.prog) W4 wr.heap.size 4 _ 126 c4 k3 (by simp) o4;have kB:W5.heap[wr.heap.size]?=some (.cells #[c0,c1,c2,c3,c4] 126 (0,0)):=k4;have sB:gh wr.heap.size (wr.alloc (.cells #[Value.int IntKind.i64 0,Value.int IntKind.i64 0,Value.int IntKind.i64 0,Value.bool false,Value.int IntKind.i64 0] 126)) W5:=((((s0.trans s1).trans s2).trans s3).trans s4);have szB:W5.heap.size=wr.heap.size+1:=by rw[sB.size];simp
   have oB:∀ k,k<wr.heap.size->W5.heap[k]?=wr.heap[k]?:=λk hk=>(sB.other k (by omega)).trans (Go.heap_alloc_old wr _ hk)
   have l0:W5.cell? ⟨wr.heap.size,0,none⟩=some c0:=by rw[cell_of_row _ _ _ _ _ _ kB];rfl
   have l1:W5.cell? ⟨wr.heap.size,1,none⟩=some c1:=by rw[cell_of_row _ _ _ _ _ _ kB];rfl
   have l2:W5.cell? ⟨wr.heap.size,2,none⟩=some c2:=by rw[cell_of_row _ _ _ _ _ _ kB];rfl
   have l3:W5.cell? ⟨wr.heap.size,3,none⟩=some c3:=by rw[cell_of_row _ _ _ _ _ _ kB];rfl
   have l4:W5.cell? ⟨wr.heap.size,4,none⟩=some c4:=by rw[cell_of_row _ _ _ _ _ _ kB];rfl
   have cφ:=hφ W5 (by omega) (λk hk hn=>(oB k (by omega)).trans (hR.other k hk hn)) j hj;rw[y]at cφ;have em:IntKind.i64.wrap ((j:Int)+1)=((j+1:Nat):Int):=by rw[BO];omega
   have et:IntKind.i64.wrap ((p:Int)+1)=((p+1:Nat):Int):=by rw[BO];omega
   have d3:(p:Int)<(n:Int):=by omega
   have B:Aside (wr.heap[g]?=some (.cells r 126 (0,0))/\r.size=cur.size/\ee w g n 5 126 cur.size del flat p j wr/\(flat.drop (j*5)).take 5=[c0,c1,c2,c3,c4]/\W5.heap[wr.heap.size]?=some (.cells #[c0,c1,c2,c3,c4] 126 (0,0))/\gh wr.heap.size (wr.alloc (.cells #[Value.int IntKind.i64 0,Value.int IntKind.i64 0,Value.int IntKind.i64 0,Value.bool false,Value.int IntKind.i64 0] 126)) W5/\W5.heap.size=wr.heap.size+1/\(∀ k,k<wr.heap.size->W5.heap[k]?=wr.heap[k]?)/\w.heap.size<=wr.heap.size/\(j+1)*5<=n*5/\(p+1)*5<=j*5/\n*5<=cur.size/\g<w.heap.size):=⟨X,a5,hR,y,kB,sB,szB,oB,Z,b4,a3,I,Y⟩;clear H a9 M hφ a1 a4 hg J a2 I Y b0 a6 hi X a5 b5 bl Z b4 a3 hc y cw kB sB szB oB k0 k1 k2 k3 k4 s0 s1 s2 s3 s4 bx cu cy cp bn;cases b2:del j with
   |true =>
    rw[b2]at cφ;have D:Aside (del j=true/\ee w g n 5 126 cur.size del flat p j wr):=⟨b2,hR⟩;clear b2 hR
    go_wp2
    refine cφ.mono ?_;rintro e W' ⟨rfl,O⟩
    go_wp2
    go_roundg (gk-1)
    case measure=>omega
    case rel =>
     obtain⟨X,a5,_,y,kB,sB,szB,oB,Z,b4,a3,I,Y⟩:=B.out;exact⟨p,j+1,by first|rfl|simp,by first|rfl|simp,by omega,by omega,D.out.2.skip D.out.1 (O.os.trans sB.os) (O.tape.trans sB.tape) (O.output.trans sB.output) (by have:=O.size;omega) (λk hk=>(O.block k (by omega)).trans (oB k hk)) Y⟩
   |false =>
    rw[b2]at cφ;have D:Aside (del j=false/\ee w g n 5 126 cur.size del flat p j wr):=⟨b2,hR⟩;clear b2 hR
    go_wp2
    refine cφ.mono ?_;rintro e W' ⟨rfl,O⟩;obtain⟨X,a5,hR,y,kB,sB,szB,oB,Z,b4,a3,I,Y⟩:=B.out;have kC:W'.heap[wr.heap.size]?=some (.cells #[c0,c1,c2,c3,c4] 126 (0,0)):=(O.block _ (by omega)).trans kB;have rC:W'.heap[g]?=some (.cells r 126 (0,0)):=(O.block _ (by omega)).trans ((oB g (by omega)).trans X);have m0:W'.cell? ⟨wr.heap.size,0,none⟩=some c0:=by rw[cell_of_row _ _ _ _ _ _ kC];rfl
    have m1:W'.cell? ⟨wr.heap.size,1,none⟩=some c1:=by rw[cell_of_row _ _ _ _ _ _ kC];rfl
    have m2:W'.cell? ⟨wr.heap.size,2,none⟩=some c2:=by rw[cell_of_row _ _ _ _ _ _ kC];rfl
    have m3:W'.cell? ⟨wr.heap.size,3,none⟩=some c3:=by rw[cell_of_row _ _ _ _ _ _ kC];rfl
    have m4:W'.cell? ⟨wr.heap.size,4,none⟩=some c4:=by rw[cell_of_row _ _ _ _ _ _ kC];rfl
    obtain⟨V1,f0,q0,r0⟩:=bY (P:=Tryz.prog) W' g (p*5) _ 126 c0 rC (by (try simp only[BK]);omega) o0;obtain⟨V2,f1,q1,r1⟩:=bY (P:=Tryz.prog) V1 g (p*5+1) _ 126 c1 q0 (by (try simp only[BK]);omega) o1;obtain⟨V3,f2,q2,r2⟩:=bY (P:=Tryz.prog) V2 g (p*5+2) _ 126 c2 q1 (by (try simp only[BK]);omega) o2;obtain⟨V4,f3,q3,r3⟩:=bY (P:=Tryz.prog) V3 g (p*5+3) _ 126 c3 q2 (by (try simp only[BK]);omega) o3;obtain⟨V5,f4,q4,r4⟩:=bY (P:=Tryz.prog) V4 g (p*5+4) _ 126 c4 q3 (by (try simp only[BK]);omega) o4;have qV:V5.heap[g]?=some (.cells (gi r (p*5) [c0,c1,c2,c3,c4]) 126 (0,0)):=q4;have sV:gh g W' V5:=((((r0.trans r1).trans r2).trans r3).trans r4);have E2:Aside (V5.heap[g]?=some (.cells (gi r (p*5) [c0,c1,c2,c3,c4]) 126 (0,0))/\gh g W' V5/\Below W5.heap.size W5 W'):=⟨qV,sV,O⟩;clear qV sV O X a5 hR y kB sB szB oB Z b4 a3 I Y kC rC q0 q1 q2 q3 q4 r0 r1 r2 r3 r4 cφ
    go_wp2
    go_roundg (gk-1)
    case measure=>omega
    case rel =>
     obtain⟨X,a5,_,y,kB,sB,szB,oB,Z,b4,a3,I,Y⟩:=B.out;obtain⟨qV,sV,O⟩:=E2.out;have f8:=O.size;have f5:=sV.size;exact⟨p+1,j+1,by first|rfl|simp,by first|rfl|simp,by omega,by omega,D.out.2.keep X D.out.1 (sV.os.trans (O.os.trans sB.os)) (sV.tape.trans (O.tape.trans sB.tape)) (sV.output.trans (O.output.trans sB.output)) (by omega)
      (λk hk hn=>(sV.other k hn).trans ((O.block k (by omega)).trans (oB k hk))) hj I qV rfl y⟩
  ·have cc:j=n:=by omega
   subst cc;have d2:¬ ((j:Int)<(j:Int)):=by omega
   have eb:(0:Int)<=(p:Int):=by omega
   have d3:¬ (R=p):=by omega
   have ec:p<=j:=by omega
   have f6:p<=R:=by omega
   obtain⟨ad,e5,ba,b1⟩:=mN (P:=Tryz.prog) wr 24 126 b9 z Tryz.underlying24 hi b0 g (p*5) (j-p) (R-p) r 126 X (by omega) (by rw[a6];simp only[B3,BQ,BR];rw[<- Nat.add_mul];have:(p+(j-p))*5<=R*5:=BL _ (by omega);omega) (by rw[a6];simp[CA]);have B:Aside (wr.heap[g]?=some (.cells r 126 (0,0))/\r.size=cur.size/\ee w g j 5 126 cur.size del flat p j wr/\r.toList.take (p*5)=fF 5 del flat j/\ad.size=r.size/\ad.toList.take (p*5)=r.toList.take (p*5)/\R<=maxLen/\R*5<=cur.size/\flat.length=j*5):=⟨X,a5,hR,b5,ba,b1,a2,a4,a9⟩;clear H a9 M hφ a1 a4 hg J a2 I Y b0 a6 hi X a5 b5 bl Z hR ba b1
   go_wp2
   go_ret
   obtain⟨X,a5,hR,b5,ba,b1,a2,a4,a9⟩:=B.out;have cb:=pn (s:=5) (del:=del) (flat:=flat) (j:=j) (by omega);have bb:=hR.cnt;refine⟨.slice (some ⟨g,0,none⟩) p R,rfl,⟨cb,.inr ⟨g,R,ad,_,by rw[bb],setRow_heap wr g r ad 126 (0,0) X,by omega,.inl ⟨rfl,a2⟩,by omega,by rw[<- bb,b1,b5]⟩⟩,⟨hR.os,hR.tape,hR.output,by simpa using hR.size,λk hk hn=>(setRow_other wr g k ad (λh=>hn (by rw[h]))).trans (hR.other k hk (λh=>hn (by rw[h])))⟩,rfl⟩
set_option maxHeartbeats 4000000 in
theorem del_none (w:World)(y I:Value)(u:Calls Tryz.prog 161 #[y,I] w λe z=>e=.returned (.int .i64 (-1))/\Below w.heap.size w z) :
  Calls Tryz.prog 246 #[y,I] w λe z=>e=.returned y/\Below w.heap.size w z:=by
 have mixed:Tryz.prog.follows .mixedOrders=true:=by kernel_rfl
 have J:∀ r w,(callFunc 161 r).run Tryz.prog w=.ok (.enter 161 r) w:=λr w=>dZ Tryz.func161 (by kernel_rfl) rfl r w
 go_enter Tryz.func246,Tryz.ntmps246
 go_wp2_with (go_at_fn 161;refine u.mono ?_;rintro e W ⟨rfl,H⟩)
 go_ret
 exact⟨rfl,H⟩
theorem walk:qX Tryz.prog 246 161 126 5 where
 none_:=λw v0 fv n r _ h=>del_none w v0 fv h
 some_:=λw g n O r fi J Z p0 y h1 ef hp hd hk hφ I=>by
  have q1:(Tryz.prog.info? 126).isSome=true:=by kernel_rfl
  have R:((Tryz.prog.info? 126).bind λi=>i.zero).map (λz=>z.cells)=some #[Value.int IntKind.i64 0,Value.int IntKind.i64 0,Value.int IntKind.i64 0,Value.bool false,Value.int IntKind.i64 0]:=by kernel_rfl
  obtain⟨a4,hi⟩:=BT.1 q1;rw[hi]at R;simp only[B6,BV]at R;obtain⟨z,hz,a0⟩:=R;obtain⟨a3,⟨M,_⟩|⟨g',a5,Y,mk,M,hg,a2,X,a1,u⟩⟩:=y
  ·cases M
  ·simp only[B4,B5,CB,and_true,true_and]at M;obtain⟨rfl,rfl⟩:=M;obtain⟨rfl,H⟩:=X.elim id (λh=>absurd h.1 (by decide));exact del_walk w g n O Y r a4 z hi hz a0 hg H a1 u a3 h1 a2 fi J ef Z p0 hp hd hk hφ I
end Q9
end Go.Proofs.YtaegajachoklkaaGreatEv
