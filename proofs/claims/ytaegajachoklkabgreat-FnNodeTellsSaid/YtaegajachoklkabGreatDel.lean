/- slices.DeleteFunc, walked. Printed by delete.py. -/
import Derived.Test.YtaegajachoklkabGreatProg
import Derived.Test.YtaegajachoklkabGreatEvS
import Derived.Test.YtaegajachoklkabGreatE6
import Derived.Shelf.Spec.SlicesInsert
import Derived.Deep.LoopGhost
set_option linter.unusedVariables false
set_option maxRecDepth 100000
set_option linter.unusedVariables false
set_option linter.unusedSimpArgs false
open Array renaming size_setIfInBounds->BG,getElem?_eq_getElem->BJ,getElem?_eq_some_iff->BO,getElem?_toList->BS
open Go.Addr.mk renaming injEq->B7
open Go.IntKind renaming wrap_i64->BK
open Go.Value renaming oneCell'->B6
open Go.Value.slice renaming injEq->BX
open List renaming mem_of_getElem?->BI,getElem?_take->BL,length_cons->BM,length_nil->BN,getElem?_eq_none->BT,getElem?_drop->BU,ext_getElem?->BV,size_toArray->BW,append_nil->B3,take_take->B5
open Nat renaming mul_le_mul_right->BH,add_zero->BQ,min_eq_left->B4
open Option renaming isSome_iff_exists->BP,map_eq_some_iff->BR,bind_some->BZ
open Option.some renaming injEq->BY
namespace Go.Proofs.YtaegajachoklkabGreatEv
open Go Go.Proofs Go.Shelf Go.RowKit Go.Lib
namespace Q7
set_option maxHeartbeats 4000000 in
theorem del_walk (w:World)(g n O:Nat)(cur:Array Value)(flat:List Value)(b9:TypeInfo)(z:Value)(hi:Tryz.prog.info? 59=some b9)(b0:b9.zero=some z)(a6:z.cells=#[Value.int IntKind.i64 0,Value.int IntKind.i64 0,Value.int IntKind.i64 0,Value.slice none 0 0])
  (hg:w.heap[g]?=some (.cells cur 59 (0,0))) (a2:O<=maxLen) (a5:O*4<=cur.size) (J:cur.toList.take (n*4)=flat) (ad:flat.length=n*4) (a1:∀ u∈flat,u.oneCell'=true) (d2:n<=O)
  (fi:Nat) (caps:Array Value) (ef:fR Tryz.prog fi) (del:Nat->Bool) (p0:Nat) (cx:p0<n) (M:del p0=true) (H:∀ j,j<p0->del j=false)
  (hφ:(∀ w1:World,w.heap.size<=w1.heap.size->(∀ k,k<w.heap.size->k≠g->w1.heap[k]?=w.heap[k]?)->∀ j,j<n->Calls Tryz.prog fi (#[.agg ((flat.drop (j*4)).take 4).toArray]++caps) w1 (λe w2=>e=.returned (.bool (del j))/\Below w1.heap.size w1 w2)))
  (bn:Calls Tryz.prog 148 #[.slice (some ⟨g,0,none⟩) n O,.func (.func fi) #[] caps] w λe w'=>e=.returned (.int .i64 p0)/\Below w.heap.size w w') :
  Calls Tryz.prog 115 #[.slice (some ⟨g,0,none⟩) n O,.func (.func fi) #[] caps] w λe w'=>∃ v',e=.returned v'/\Row w' 59 4 v' (dw del n) (fE 4 del flat n)/\w.grownBy w' (some g)/\v'.ownBlock=some g:=by
 have e6:O<=9223372036854775807:=by simp only[maxLen]at a2;omega
 have hz:¬ ((p0:Int)=-1):=by omega
 have mixed:Tryz.prog.follows .mixedOrders=true:=by kernel_rfl
 have ex:IntKind.i64.wrap ((p0:Int)+1)=((p0+1:Nat):Int):=by rw[BK];omega
 have eI:∀ Z w,(callFunc 148 Z).run Tryz.prog w=.ok (.enter 148 Z) w:=λZ w=>dW Tryz.func148 (by kernel_rfl) rfl Z w
 have ec:∀ Z w,(callFunc fi Z).run Tryz.prog w=.ok (.enter fi Z) w:=ef;have Y:g<w.heap.size:=(BO.1 hg).1;have I:n*4<=cur.size:=Nat.le_trans (BH _ d2) a5;have A:Aside ((∀ j,j<p0->del j=false)/\flat.length=n*4/\cur.toList.take (n*4)=flat/\(∀ w1:World,w.heap.size<=w1.heap.size->(∀ k,k<w.heap.size->k≠g->w1.heap[k]?=w.heap[k]?)->∀ j,j<n->Calls Tryz.prog fi (#[.agg ((flat.drop (j*4)).take 4).toArray]++caps) w1 (λe w2=>e=.returned (.bool (del j))/\Below w1.heap.size w1 w2))/\(∀ u∈flat,u.oneCell'=true)/\O*4<=cur.size/\w.heap[g]?=some (.cells cur 59 (0,0))/\del p0=true/\O<=maxLen/\n*4<=cur.size/\g<w.heap.size/\b9.zero=some z/\z.cells=#[Value.int IntKind.i64 0,Value.int IntKind.i64 0,Value.int IntKind.i64 0,Value.slice none 0 0]/\Tryz.prog.info? 59=some b9):=⟨H,ad,J,hφ,a1,a5,hg,M,a2,I,Y,b0,a6,hi⟩;clear H ad J hφ a1 a5 hg M a2 I Y b0 a6 hi
 go_enter Tryz.func115,Tryz.ntmps115
 go_wp2_with (go_at_fn 148;refine bn.mono ?_;rintro e W ⟨rfl,b2⟩)
 go_loopg [5,6] n (λk s5 s6 wx=>∃ p j:Nat,s5=.int .i64 p/\s6=.int .i64 j/\j<=n/\n<=j+k/\d8 w g n 4 59 cur.size del flat p j wx)
 case atStart =>
  obtain⟨H,ad,J,hφ,a1,a5,hg,M,a2,I,Y,b0,a6,hi⟩:=A.out;have e4:(p0+1)*4<=n*4:=BH _ cx;have hk:=pn (s:=4) (flat:=flat) H (by omega);refine⟨p0,p0+1,rfl,by first|rfl|simp,by omega,by omega,b2.os,b2.tape,b2.output,b2.size,λk hk _=>b2.block k hk,⟨cur,(b2.block g Y).trans hg,rfl,?_,λt _ ht=>?_⟩,?_,by omega⟩
  ·simp only[fE,M,if_true,B3];rw[hk.1,<- J,B5,B4 (by omega)]
  ·rw[<- J,BL,if_pos ht,BS]
  ·simp only[dw,M,if_true,BQ,hk.2]
 case round =>
  obtain⟨p,j,rfl,rfl,ed,en,hR⟩:=hrel;obtain⟨H,ad,J,hφ,a1,a5,hg,M,a2,I,Y,b0,a6,hi⟩:=A.out;obtain⟨r,X,a4,b5,bl⟩:=hR.row;have d3:=hR.lt;have a0:=hR.size;by_cases hj:j<n
  ·have dc:(j:Int)<(n:Int):=by omega
   have b3:(j+1)*4<=n*4:=BH _ hj;have a3:(p+1)*4<=j*4:=BH _ d3;have hc:∀ t,t<4->∃ u,wr.cell? ⟨g,j*4+t,none⟩=some u/\flat[j*4+t]?=some u:=λt ht =>
    ⟨r[j*4+t]'(by omega),by rw[cell_of_row wr g _ r 59 (0,0) X];exact BJ (by omega),by rw[<- bl _ (by omega) (by omega)];exact BJ (by omega)⟩
   obtain⟨c0,cy,c4⟩:=hc 0 (by omega);obtain⟨c1,e7,bx⟩:=hc 1 (by omega);obtain⟨c2,em,cw⟩:=hc 2 (by omega);obtain⟨c3,eb,cu⟩:=hc 3 (by omega);rw[BQ]at cy;have o0:=a1 c0 (BI c4);have o1:=a1 c1 (BI bx);have o2:=a1 c2 (BI cw);have o3:=a1 c3 (BI cu);have y:(flat.drop (j*4)).take 4=[c0,c1,c2,c3]:=by
    refine BV λi=>?_
    rw[BL];split
    ·rename_i hi;rw[BU];rcases i with _|(_|(_|(_|_)));all_goals first|assumption|omega
    ·rename_i hi;exact (BT (by simp only[BM,BN];omega)).symm
   have cb:(wr.alloc (.cells #[Value.int IntKind.i64 0,Value.int IntKind.i64 0,Value.int IntKind.i64 0,Value.slice none 0 0] 59)).heap[wr.heap.size]?=some (.cells #[Value.int IntKind.i64 0,Value.int IntKind.i64 0,Value.int IntKind.i64 0,Value.slice none 0 0] 59 (0,0)):=heap_alloc_new wr _;obtain⟨W1,e0,k0,s0⟩:=bY (P:=Tryz.prog) (wr.alloc (.cells #[Value.int IntKind.i64 0,Value.int IntKind.i64 0,Value.int IntKind.i64 0,Value.slice none 0 0] 59)) wr.heap.size 0 _ 59 c0 cb (by simp) o0;obtain⟨W2,e1,k1,s1⟩:=bY (P:=Tryz.prog) W1 wr.heap.size 1 _ 59 c1 k0 (by simp) o1;obtain⟨W3,e2,k2,s2⟩:=bY (P:=Tryz.prog) W2 wr.heap.size 2 _ 59 c2 k1 (by simp) o2;obtain⟨W4,e3,k3,s3⟩:=bY (P:=Tryz.prog) W3 wr.heap.size 3 _ 59 c3 k2 (by simp) o3;have kB:W4.heap[wr.heap.size]?=some (.cells #[c0,c1,c2,c3] 59 (0,0)):=k3;have sB:gf wr.heap.size (wr.alloc (.cells #[Value.int IntKind.i64 0,Value.int IntKind.i64 0,Value.int IntKind.i64 0,Value.slice none 0 0] 59)) W4:=(((s0.trans s1).trans s2).trans s3);have szB:W4.heap.size=wr.heap.size+1:=by rw[sB.size];simp
   have oB:∀ k,k<wr.heap.size->W4.heap[k]?=wr.heap[k]?:=λk hk=>(sB.other k (by omega)).trans (Go.heap_alloc_old wr _ hk)
   have l0:W4.cell? ⟨wr.heap.size,0,none⟩=some c0:=by rw[cell_of_row _ _ _ _ _ _ kB];rfl
   have l1:W4.cell? ⟨wr.heap.size,1,none⟩=some c1:=by rw[cell_of_row _ _ _ _ _ _ kB];rfl
   have l2:W4.cell? ⟨wr.heap.size,2,none⟩=some c2:=by rw[cell_of_row _ _ _ _ _ _ kB];rfl
   have l3:W4.cell? ⟨wr.heap.size,3,none⟩=some c3:=by rw[cell_of_row _ _ _ _ _ _ kB];rfl
   have cφ:=hφ W4 (by omega) (λk hk hn=>(oB k (by omega)).trans (hR.other k hk hn)) j hj;rw[y]at cφ;have ev:IntKind.i64.wrap ((j:Int)+1)=((j+1:Nat):Int):=by rw[BK];omega
   have eg:IntKind.i64.wrap ((p:Int)+1)=((p+1:Nat):Int):=by rw[BK];omega
   have d1:(p:Int)<(n:Int):=by omega
   have B:Aside (wr.heap[g]?=some (.cells r 59 (0,0))/\r.size=cur.size/\d8 w g n 4 59 cur.size del flat p j wr/\(flat.drop (j*4)).take 4=[c0,c1,c2,c3]/\W4.heap[wr.heap.size]?=some (.cells #[c0,c1,c2,c3] 59 (0,0))/\gf wr.heap.size (wr.alloc (.cells #[Value.int IntKind.i64 0,Value.int IntKind.i64 0,Value.int IntKind.i64 0,Value.slice none 0 0] 59)) W4/\W4.heap.size=wr.heap.size+1/\(∀ k,k<wr.heap.size->W4.heap[k]?=wr.heap[k]?)/\w.heap.size<=wr.heap.size/\(j+1)*4<=n*4/\(p+1)*4<=j*4/\n*4<=cur.size/\g<w.heap.size):=⟨X,a4,hR,y,kB,sB,szB,oB,a0,b3,a3,I,Y⟩;clear H ad J hφ a1 a5 hg M a2 I Y b0 a6 hi X a4 b5 bl a0 b3 a3 hc y cb kB sB szB oB k0 k1 k2 k3 s0 s1 s2 s3 c4 bx cw cu;cases b4:del j with
   |true =>
    rw[b4]at cφ;have D:Aside (del j=true/\d8 w g n 4 59 cur.size del flat p j wr):=⟨b4,hR⟩;clear b4 hR
    go_wp2
    refine cφ.mono ?_;rintro e W' ⟨rfl,R⟩
    go_wp2
    go_roundg (gk-1)
    case measure=>omega
    case rel =>
     obtain⟨X,a4,_,y,kB,sB,szB,oB,a0,b3,a3,I,Y⟩:=B.out;exact⟨p,j+1,by first|rfl|simp,by first|rfl|simp,by omega,by omega,D.out.2.skip D.out.1 (R.os.trans sB.os) (R.tape.trans sB.tape) (R.output.trans sB.output) (by have:=R.size;omega) (λk hk=>(R.block k (by omega)).trans (oB k hk)) Y⟩
   |false =>
    rw[b4]at cφ;have D:Aside (del j=false/\d8 w g n 4 59 cur.size del flat p j wr):=⟨b4,hR⟩;clear b4 hR
    go_wp2
    refine cφ.mono ?_;rintro e W' ⟨rfl,R⟩;obtain⟨X,a4,hR,y,kB,sB,szB,oB,a0,b3,a3,I,Y⟩:=B.out;have kC:W'.heap[wr.heap.size]?=some (.cells #[c0,c1,c2,c3] 59 (0,0)):=(R.block _ (by omega)).trans kB;have rC:W'.heap[g]?=some (.cells r 59 (0,0)):=(R.block _ (by omega)).trans ((oB g (by omega)).trans X);have m0:W'.cell? ⟨wr.heap.size,0,none⟩=some c0:=by rw[cell_of_row _ _ _ _ _ _ kC];rfl
    have m1:W'.cell? ⟨wr.heap.size,1,none⟩=some c1:=by rw[cell_of_row _ _ _ _ _ _ kC];rfl
    have m2:W'.cell? ⟨wr.heap.size,2,none⟩=some c2:=by rw[cell_of_row _ _ _ _ _ _ kC];rfl
    have m3:W'.cell? ⟨wr.heap.size,3,none⟩=some c3:=by rw[cell_of_row _ _ _ _ _ _ kC];rfl
    obtain⟨V1,f0,q0,r0⟩:=bY (P:=Tryz.prog) W' g (p*4) _ 59 c0 rC (by (try simp only[BG]);omega) o0;obtain⟨V2,f1,q1,r1⟩:=bY (P:=Tryz.prog) V1 g (p*4+1) _ 59 c1 q0 (by (try simp only[BG]);omega) o1;obtain⟨V3,f2,q2,r2⟩:=bY (P:=Tryz.prog) V2 g (p*4+2) _ 59 c2 q1 (by (try simp only[BG]);omega) o2;obtain⟨V4,f3,q3,r3⟩:=bY (P:=Tryz.prog) V3 g (p*4+3) _ 59 c3 q2 (by (try simp only[BG]);omega) o3;have qV:V4.heap[g]?=some (.cells (gh r (p*4) [c0,c1,c2,c3]) 59 (0,0)):=q3;have sV:gf g W' V4:=(((r0.trans r1).trans r2).trans r3);have E2:Aside (V4.heap[g]?=some (.cells (gh r (p*4) [c0,c1,c2,c3]) 59 (0,0))/\gf g W' V4/\Below W4.heap.size W4 W'):=⟨qV,sV,R⟩;clear qV sV R X a4 hR y kB sB szB oB a0 b3 a3 I Y kC rC q0 q1 q2 q3 r0 r1 r2 r3 cφ
    go_wp2
    go_roundg (gk-1)
    case measure=>omega
    case rel =>
     obtain⟨X,a4,_,y,kB,sB,szB,oB,a0,b3,a3,I,Y⟩:=B.out;obtain⟨qV,sV,R⟩:=E2.out;have f4:=R.size;have et:=sV.size;exact⟨p+1,j+1,by first|rfl|simp,by first|rfl|simp,by omega,by omega,D.out.2.keep X D.out.1 (sV.os.trans (R.os.trans sB.os)) (sV.tape.trans (R.tape.trans sB.tape)) (sV.output.trans (R.output.trans sB.output)) (by omega)
      (λk hk hn=>(sV.other k hn).trans ((R.block k (by omega)).trans (oB k hk))) hj I qV rfl y⟩
  ·have cp:j=n:=by omega
   subst cp;have dc:¬ ((j:Int)<(j:Int)):=by omega
   have e5:(0:Int)<=(p:Int):=by omega
   have d1:¬ (O=p):=by omega
   have es:p<=j:=by omega
   have ej:p<=O:=by omega
   obtain⟨a9,dd,ba,b1⟩:=mG (P:=Tryz.prog) wr 27 59 b9 z Tryz.underlying27 hi b0 g (p*4) (j-p) (O-p) r 59 X (by omega) (by rw[a6];simp only[BW,BM,BN];rw[<- Nat.add_mul];have:(p+(j-p))*4<=O*4:=BH _ (by omega);omega) (by rw[a6];simp[B6]);have B:Aside (wr.heap[g]?=some (.cells r 59 (0,0))/\r.size=cur.size/\d8 w g j 4 59 cur.size del flat p j wr/\r.toList.take (p*4)=fE 4 del flat j/\a9.size=r.size/\a9.toList.take (p*4)=r.toList.take (p*4)/\O<=maxLen/\O*4<=cur.size/\flat.length=j*4):=⟨X,a4,hR,b5,ba,b1,a2,a5,ad⟩;clear H ad J hφ a1 a5 hg M a2 I Y b0 a6 hi X a4 b5 bl a0 hR ba b1
   go_wp2
   go_ret
   obtain⟨X,a4,hR,b5,ba,b1,a2,a5,ad⟩:=B.out;have cc:=po (s:=4) (del:=del) (flat:=flat) (j:=j) (by omega);have bb:=hR.cnt;refine⟨.slice (some ⟨g,0,none⟩) p O,rfl,⟨cc,.inr ⟨g,O,a9,_,by rw[bb],setRow_heap wr g r a9 59 (0,0) X,by omega,.inl ⟨rfl,a2⟩,by omega,by rw[<- bb,b1,b5]⟩⟩,⟨hR.os,hR.tape,hR.output,by simpa using hR.size,λk hk hn=>(setRow_other wr g k a9 (λh=>hn (by rw[h]))).trans (hR.other k hk (λh=>hn (by rw[h])))⟩,rfl⟩
set_option maxHeartbeats 4000000 in
theorem del_none (w:World)(y I:Value)(u:Calls Tryz.prog 148 #[y,I] w λe H=>e=.returned (.int .i64 (-1))/\Below w.heap.size w H) :
  Calls Tryz.prog 115 #[y,I] w λe H=>e=.returned y/\Below w.heap.size w H:=by
 have mixed:Tryz.prog.follows .mixedOrders=true:=by kernel_rfl
 have J:∀ r w,(callFunc 148 r).run Tryz.prog w=.ok (.enter 148 r) w:=λr w=>dW Tryz.func148 (by kernel_rfl) rfl r w
 go_enter Tryz.func115,Tryz.ntmps115
 go_wp2_with (go_at_fn 148;refine u.mono ?_;rintro e W ⟨rfl,z⟩)
 go_ret
 exact⟨rfl,z⟩
theorem walk:qW Tryz.prog 115 148 59 4 where
 none_:=λw v0 fv n r _ h=>del_none w v0 fv h
 some_:=λw g n a1 r fi J Y p0 I h1 ef hp hd hk hφ y=>by
  have q1:(Tryz.prog.info? 59).isSome=true:=by kernel_rfl
  have O:((Tryz.prog.info? 59).bind λi=>i.zero).map (λz=>z.cells)=some #[Value.int IntKind.i64 0,Value.int IntKind.i64 0,Value.int IntKind.i64 0,Value.slice none 0 0]:=by kernel_rfl
  obtain⟨a2,hi⟩:=BP.1 q1;rw[hi]at O;simp only[BZ,BR]at O;obtain⟨z,hz,X⟩:=O;obtain⟨Z,⟨M,_⟩|⟨g',a5,R,mk,M,hg,a3,a4,a0,u⟩⟩:=I
  ·cases M
  ·simp only[BX,BY,B7,and_true,true_and]at M;obtain⟨rfl,rfl⟩:=M;obtain⟨rfl,H⟩:=a4.elim id (λh=>absurd h.1 (by decide));exact del_walk w g n a1 R r a2 z hi hz X hg H a0 u Z h1 a3 fi J ef Y p0 hp hd hk hφ y
end Q7
namespace Q10
set_option maxHeartbeats 4000000 in
theorem del_walk (w:World)(g n O:Nat)(cur:Array Value)(flat:List Value)(b9:TypeInfo)(z:Value)(hi:Tryz.prog.info? 85=some b9)(b0:b9.zero=some z)(a6:z.cells=#[Value.int IntKind.i64 0,Value.int IntKind.i64 0,Value.int IntKind.i64 0,Value.bool false,Value.int IntKind.i64 0])
  (hg:w.heap[g]?=some (.cells cur 85 (0,0))) (a2:O<=maxLen) (a5:O*5<=cur.size) (J:cur.toList.take (n*5)=flat) (ad:flat.length=n*5) (Z:∀ u∈flat,u.oneCell'=true) (dc:n<=O)
  (fi:Nat) (caps:Array Value) (ef:fR Tryz.prog fi) (del:Nat->Bool) (p0:Nat) (d1:p0<n) (M:del p0=true) (H:∀ j,j<p0->del j=false)
  (hφ:(∀ w1:World,w.heap.size<=w1.heap.size->(∀ k,k<w.heap.size->k≠g->w1.heap[k]?=w.heap[k]?)->∀ j,j<n->Calls Tryz.prog fi (#[.agg ((flat.drop (j*5)).take 5).toArray]++caps) w1 (λe w2=>e=.returned (.bool (del j))/\Below w1.heap.size w1 w2)))
  (bn:Calls Tryz.prog 133 #[.slice (some ⟨g,0,none⟩) n O,.func (.func fi) #[] caps] w λe w'=>e=.returned (.int .i64 p0)/\Below w.heap.size w w') :
  Calls Tryz.prog 154 #[.slice (some ⟨g,0,none⟩) n O,.func (.func fi) #[] caps] w λe w'=>∃ v',e=.returned v'/\Row w' 85 5 v' (dw del n) (fE 5 del flat n)/\w.grownBy w' (some g)/\v'.ownBlock=some g:=by
 have ec:O<=9223372036854775807:=by simp only[maxLen]at a2;omega
 have hz:¬ ((p0:Int)=-1):=by omega
 have mixed:Tryz.prog.follows .mixedOrders=true:=by kernel_rfl
 have f8:IntKind.i64.wrap ((p0:Int)+1)=((p0+1:Nat):Int):=by rw[BK];omega
 have eI:∀ a0 w,(callFunc 133 a0).run Tryz.prog w=.ok (.enter 133 a0) w:=λa0 w=>dW Tryz.func133 (by kernel_rfl) rfl a0 w
 have ej:∀ a0 w,(callFunc fi a0).run Tryz.prog w=.ok (.enter fi a0) w:=ef;have Y:g<w.heap.size:=(BO.1 hg).1;have I:n*5<=cur.size:=Nat.le_trans (BH _ dc) a5;have A:Aside ((∀ j,j<p0->del j=false)/\flat.length=n*5/\cur.toList.take (n*5)=flat/\(∀ w1:World,w.heap.size<=w1.heap.size->(∀ k,k<w.heap.size->k≠g->w1.heap[k]?=w.heap[k]?)->∀ j,j<n->Calls Tryz.prog fi (#[.agg ((flat.drop (j*5)).take 5).toArray]++caps) w1 (λe w2=>e=.returned (.bool (del j))/\Below w1.heap.size w1 w2))/\(∀ u∈flat,u.oneCell'=true)/\O*5<=cur.size/\w.heap[g]?=some (.cells cur 85 (0,0))/\del p0=true/\O<=maxLen/\n*5<=cur.size/\g<w.heap.size/\b9.zero=some z/\z.cells=#[Value.int IntKind.i64 0,Value.int IntKind.i64 0,Value.int IntKind.i64 0,Value.bool false,Value.int IntKind.i64 0]/\Tryz.prog.info? 85=some b9):=⟨H,ad,J,hφ,Z,a5,hg,M,a2,I,Y,b0,a6,hi⟩;clear H ad J hφ Z a5 hg M a2 I Y b0 a6 hi
 go_enter Tryz.func154,Tryz.ntmps154
 go_wp2_with (go_at_fn 133;refine bn.mono ?_;rintro e W ⟨rfl,b2⟩)
 go_loopg [5,6] n (λk s5 s6 wx=>∃ p j:Nat,s5=.int .i64 p/\s6=.int .i64 j/\j<=n/\n<=j+k/\d8 w g n 5 85 cur.size del flat p j wx)
 case atStart =>
  obtain⟨H,ad,J,hφ,Z,a5,hg,M,a2,I,Y,b0,a6,hi⟩:=A.out;have e7:(p0+1)*5<=n*5:=BH _ d1;have hk:=pn (s:=5) (flat:=flat) H (by omega);refine⟨p0,p0+1,rfl,by first|rfl|simp,by omega,by omega,b2.os,b2.tape,b2.output,b2.size,λk hk _=>b2.block k hk,⟨cur,(b2.block g Y).trans hg,rfl,?_,λt _ ht=>?_⟩,?_,by omega⟩
  ·simp only[fE,M,if_true,B3];rw[hk.1,<- J,B5,B4 (by omega)]
  ·rw[<- J,BL,if_pos ht,BS]
  ·simp only[dw,M,if_true,BQ,hk.2]
 case round =>
  obtain⟨p,j,rfl,rfl,em,ex,hR⟩:=hrel;obtain⟨H,ad,J,hφ,Z,a5,hg,M,a2,I,Y,b0,a6,hi⟩:=A.out;obtain⟨r,X,a4,b5,bl⟩:=hR.row;have dd:=hR.lt;have a1:=hR.size;by_cases hj:j<n
  ·have e5:(j:Int)<(n:Int):=by omega
   have b3:(j+1)*5<=n*5:=BH _ hj;have a3:(p+1)*5<=j*5:=BH _ dd;have hc:∀ t,t<5->∃ u,wr.cell? ⟨g,j*5+t,none⟩=some u/\flat[j*5+t]?=some u:=λt ht =>
    ⟨r[j*5+t]'(by omega),by rw[cell_of_row wr g _ r 85 (0,0) X];exact BJ (by omega),by rw[<- bl _ (by omega) (by omega)];exact BJ (by omega)⟩
   obtain⟨c0,d2,cb⟩:=hc 0 (by omega);obtain⟨c1,ed,bx⟩:=hc 1 (by omega);obtain⟨c2,et,cy⟩:=hc 2 (by omega);obtain⟨c3,eg,cw⟩:=hc 3 (by omega);obtain⟨c4,ev,cx⟩:=hc 4 (by omega);rw[BQ]at d2;have o0:=Z c0 (BI cb);have o1:=Z c1 (BI bx);have o2:=Z c2 (BI cy);have o3:=Z c3 (BI cw);have o4:=Z c4 (BI cx);have y:(flat.drop (j*5)).take 5=[c0,c1,c2,c3,c4]:=by
    refine BV λi=>?_
    rw[BL];split
    ·rename_i hi;rw[BU];rcases i with _|(_|(_|(_|(_|_))));all_goals first|assumption|omega
    ·rename_i hi;exact (BT (by simp only[BM,BN];omega)).symm
   have cc:(wr.alloc (.cells #[Value.int IntKind.i64 0,Value.int IntKind.i64 0,Value.int IntKind.i64 0,Value.bool false,Value.int IntKind.i64 0] 85)).heap[wr.heap.size]?=some (.cells #[Value.int IntKind.i64 0,Value.int IntKind.i64 0,Value.int IntKind.i64 0,Value.bool false,Value.int IntKind.i64 0] 85 (0,0)):=heap_alloc_new wr _;obtain⟨W1,e0,k0,s0⟩:=bY (P:=Tryz.prog) (wr.alloc (.cells #[Value.int IntKind.i64 0,Value.int IntKind.i64 0,Value.int IntKind.i64 0,Value.bool false,Value.int IntKind.i64 0] 85)) wr.heap.size 0 _ 85 c0 cc (by simp) o0;obtain⟨W2,e1,k1,s1⟩:=bY (P:=Tryz.prog) W1 wr.heap.size 1 _ 85 c1 k0 (by simp) o1;obtain⟨W3,e2,k2,s2⟩:=bY (P:=Tryz.prog) W2 wr.heap.size 2 _ 85 c2 k1 (by simp) o2;obtain⟨W4,e3,k3,s3⟩:=bY (P:=Tryz.prog) W3 wr.heap.size 3 _ 85 c3 k2 (by simp) o3;obtain⟨W5,e4,k4,s4⟩:=bY (P:=Tryz.prog) W4 wr.heap.size 4 _ 85 c4 k3 (by simp) o4;have kB:W5.heap[wr.heap.size]?=some (.cells #[c0,c1,c2,c3,c4] 85 (0,0)):=k4;have sB:gf wr.heap.size (wr.alloc (.cells #[Value.int IntKind.i64 0,Value.int IntKind.i64 0,Value.int IntKind.i64 0,Value.bool false,Value.int IntKind.i64 0] 85)) W5:=((((s0.trans s1).trans s2).trans s3).trans s4);have szB:W5.heap.size=wr.heap.size+1:=by rw[sB.size];simp
   have oB:∀ k,k<wr.heap.size->W5.heap[k]?=wr.heap[k]?:=λk hk=>(sB.other k (by omega)).trans (Go.heap_alloc_old wr _ hk)
   have l0:W5.cell? ⟨wr.heap.size,0,none⟩=some c0:=by rw[cell_of_row _ _ _ _ _ _ kB];rfl
   have l1:W5.cell? ⟨wr.heap.size,1,none⟩=some c1:=by rw[cell_of_row _ _ _ _ _ _ kB];rfl
   have l2:W5.cell? ⟨wr.heap.size,2,none⟩=some c2:=by rw[cell_of_row _ _ _ _ _ _ kB];rfl
   have l3:W5.cell? ⟨wr.heap.size,3,none⟩=some c3:=by rw[cell_of_row _ _ _ _ _ _ kB];rfl
   have l4:W5.cell? ⟨wr.heap.size,4,none⟩=some c4:=by rw[cell_of_row _ _ _ _ _ _ kB];rfl
   have cφ:=hφ W5 (by omega) (λk hk hn=>(oB k (by omega)).trans (hR.other k hk hn)) j hj;rw[y]at cφ;have f7:IntKind.i64.wrap ((j:Int)+1)=((j+1:Nat):Int):=by rw[BK];omega
   have en:IntKind.i64.wrap ((p:Int)+1)=((p+1:Nat):Int):=by rw[BK];omega
   have d3:(p:Int)<(n:Int):=by omega
   have B:Aside (wr.heap[g]?=some (.cells r 85 (0,0))/\r.size=cur.size/\d8 w g n 5 85 cur.size del flat p j wr/\(flat.drop (j*5)).take 5=[c0,c1,c2,c3,c4]/\W5.heap[wr.heap.size]?=some (.cells #[c0,c1,c2,c3,c4] 85 (0,0))/\gf wr.heap.size (wr.alloc (.cells #[Value.int IntKind.i64 0,Value.int IntKind.i64 0,Value.int IntKind.i64 0,Value.bool false,Value.int IntKind.i64 0] 85)) W5/\W5.heap.size=wr.heap.size+1/\(∀ k,k<wr.heap.size->W5.heap[k]?=wr.heap[k]?)/\w.heap.size<=wr.heap.size/\(j+1)*5<=n*5/\(p+1)*5<=j*5/\n*5<=cur.size/\g<w.heap.size):=⟨X,a4,hR,y,kB,sB,szB,oB,a1,b3,a3,I,Y⟩;clear H ad J hφ Z a5 hg M a2 I Y b0 a6 hi X a4 b5 bl a1 b3 a3 hc y cc kB sB szB oB k0 k1 k2 k3 k4 s0 s1 s2 s3 s4 cb bx cy cw cx;cases b4:del j with
   |true =>
    rw[b4]at cφ;have D:Aside (del j=true/\d8 w g n 5 85 cur.size del flat p j wr):=⟨b4,hR⟩;clear b4 hR
    go_wp2
    refine cφ.mono ?_;rintro e W' ⟨rfl,R⟩
    go_wp2
    go_roundg (gk-1)
    case measure=>omega
    case rel =>
     obtain⟨X,a4,_,y,kB,sB,szB,oB,a1,b3,a3,I,Y⟩:=B.out;exact⟨p,j+1,by first|rfl|simp,by first|rfl|simp,by omega,by omega,D.out.2.skip D.out.1 (R.os.trans sB.os) (R.tape.trans sB.tape) (R.output.trans sB.output) (by have:=R.size;omega) (λk hk=>(R.block k (by omega)).trans (oB k hk)) Y⟩
   |false =>
    rw[b4]at cφ;have D:Aside (del j=false/\d8 w g n 5 85 cur.size del flat p j wr):=⟨b4,hR⟩;clear b4 hR
    go_wp2
    refine cφ.mono ?_;rintro e W' ⟨rfl,R⟩;obtain⟨X,a4,hR,y,kB,sB,szB,oB,a1,b3,a3,I,Y⟩:=B.out;have kC:W'.heap[wr.heap.size]?=some (.cells #[c0,c1,c2,c3,c4] 85 (0,0)):=(R.block _ (by omega)).trans kB;have rC:W'.heap[g]?=some (.cells r 85 (0,0)):=(R.block _ (by omega)).trans ((oB g (by omega)).trans X);have m0:W'.cell? ⟨wr.heap.size,0,none⟩=some c0:=by rw[cell_of_row _ _ _ _ _ _ kC];rfl
    have m1:W'.cell? ⟨wr.heap.size,1,none⟩=some c1:=by rw[cell_of_row _ _ _ _ _ _ kC];rfl
    have m2:W'.cell? ⟨wr.heap.size,2,none⟩=some c2:=by rw[cell_of_row _ _ _ _ _ _ kC];rfl
    have m3:W'.cell? ⟨wr.heap.size,3,none⟩=some c3:=by rw[cell_of_row _ _ _ _ _ _ kC];rfl
    have m4:W'.cell? ⟨wr.heap.size,4,none⟩=some c4:=by rw[cell_of_row _ _ _ _ _ _ kC];rfl
    obtain⟨V1,f0,q0,r0⟩:=bY (P:=Tryz.prog) W' g (p*5) _ 85 c0 rC (by (try simp only[BG]);omega) o0;obtain⟨V2,f1,q1,r1⟩:=bY (P:=Tryz.prog) V1 g (p*5+1) _ 85 c1 q0 (by (try simp only[BG]);omega) o1;obtain⟨V3,f2,q2,r2⟩:=bY (P:=Tryz.prog) V2 g (p*5+2) _ 85 c2 q1 (by (try simp only[BG]);omega) o2;obtain⟨V4,f3,q3,r3⟩:=bY (P:=Tryz.prog) V3 g (p*5+3) _ 85 c3 q2 (by (try simp only[BG]);omega) o3;obtain⟨V5,f4,q4,r4⟩:=bY (P:=Tryz.prog) V4 g (p*5+4) _ 85 c4 q3 (by (try simp only[BG]);omega) o4;have qV:V5.heap[g]?=some (.cells (gh r (p*5) [c0,c1,c2,c3,c4]) 85 (0,0)):=q4;have sV:gf g W' V5:=((((r0.trans r1).trans r2).trans r3).trans r4);have E2:Aside (V5.heap[g]?=some (.cells (gh r (p*5) [c0,c1,c2,c3,c4]) 85 (0,0))/\gf g W' V5/\Below W5.heap.size W5 W'):=⟨qV,sV,R⟩;clear qV sV R X a4 hR y kB sB szB oB a1 b3 a3 I Y kC rC q0 q1 q2 q3 q4 r0 r1 r2 r3 r4 cφ
    go_wp2
    go_roundg (gk-1)
    case measure=>omega
    case rel =>
     obtain⟨X,a4,_,y,kB,sB,szB,oB,a1,b3,a3,I,Y⟩:=B.out;obtain⟨qV,sV,R⟩:=E2.out;have fc:=R.size;have f6:=sV.size;exact⟨p+1,j+1,by first|rfl|simp,by first|rfl|simp,by omega,by omega,D.out.2.keep X D.out.1 (sV.os.trans (R.os.trans sB.os)) (sV.tape.trans (R.tape.trans sB.tape)) (sV.output.trans (R.output.trans sB.output)) (by omega)
      (λk hk hn=>(sV.other k hn).trans ((R.block k (by omega)).trans (oB k hk))) hj I qV rfl y⟩
  ·have cu:j=n:=by omega
   subst cu;have e5:¬ ((j:Int)<(j:Int)):=by omega
   have eb:(0:Int)<=(p:Int):=by omega
   have d3:¬ (O=p):=by omega
   have f5:p<=j:=by omega
   have es:p<=O:=by omega
   obtain⟨a9,e6,ba,b1⟩:=mG (P:=Tryz.prog) wr 24 85 b9 z Tryz.underlying24 hi b0 g (p*5) (j-p) (O-p) r 85 X (by omega) (by rw[a6];simp only[BW,BM,BN];rw[<- Nat.add_mul];have:(p+(j-p))*5<=O*5:=BH _ (by omega);omega) (by rw[a6];simp[B6]);have B:Aside (wr.heap[g]?=some (.cells r 85 (0,0))/\r.size=cur.size/\d8 w g j 5 85 cur.size del flat p j wr/\r.toList.take (p*5)=fE 5 del flat j/\a9.size=r.size/\a9.toList.take (p*5)=r.toList.take (p*5)/\O<=maxLen/\O*5<=cur.size/\flat.length=j*5):=⟨X,a4,hR,b5,ba,b1,a2,a5,ad⟩;clear H ad J hφ Z a5 hg M a2 I Y b0 a6 hi X a4 b5 bl a1 hR ba b1
   go_wp2
   go_ret
   obtain⟨X,a4,hR,b5,ba,b1,a2,a5,ad⟩:=B.out;have cp:=po (s:=5) (del:=del) (flat:=flat) (j:=j) (by omega);have bb:=hR.cnt;refine⟨.slice (some ⟨g,0,none⟩) p O,rfl,⟨cp,.inr ⟨g,O,a9,_,by rw[bb],setRow_heap wr g r a9 85 (0,0) X,by omega,.inl ⟨rfl,a2⟩,by omega,by rw[<- bb,b1,b5]⟩⟩,⟨hR.os,hR.tape,hR.output,by simpa using hR.size,λk hk hn=>(setRow_other wr g k a9 (λh=>hn (by rw[h]))).trans (hR.other k hk (λh=>hn (by rw[h])))⟩,rfl⟩
set_option maxHeartbeats 4000000 in
theorem del_none (w:World)(y I:Value)(u:Calls Tryz.prog 133 #[y,I] w λe H=>e=.returned (.int .i64 (-1))/\Below w.heap.size w H) :
  Calls Tryz.prog 154 #[y,I] w λe H=>e=.returned y/\Below w.heap.size w H:=by
 have mixed:Tryz.prog.follows .mixedOrders=true:=by kernel_rfl
 have J:∀ r w,(callFunc 133 r).run Tryz.prog w=.ok (.enter 133 r) w:=λr w=>dW Tryz.func133 (by kernel_rfl) rfl r w
 go_enter Tryz.func154,Tryz.ntmps154
 go_wp2_with (go_at_fn 133;refine u.mono ?_;rintro e W ⟨rfl,z⟩)
 go_ret
 exact⟨rfl,z⟩
theorem walk:qW Tryz.prog 154 133 85 5 where
 none_:=λw v0 fv n r _ h=>del_none w v0 fv h
 some_:=λw g n a1 r fi J Y p0 I h1 ef hp hd hk hφ y=>by
  have q1:(Tryz.prog.info? 85).isSome=true:=by kernel_rfl
  have O:((Tryz.prog.info? 85).bind λi=>i.zero).map (λz=>z.cells)=some #[Value.int IntKind.i64 0,Value.int IntKind.i64 0,Value.int IntKind.i64 0,Value.bool false,Value.int IntKind.i64 0]:=by kernel_rfl
  obtain⟨a2,hi⟩:=BP.1 q1;rw[hi]at O;simp only[BZ,BR]at O;obtain⟨z,hz,X⟩:=O;obtain⟨Z,⟨M,_⟩|⟨g',a5,R,mk,M,hg,a3,a4,a0,u⟩⟩:=I
  ·cases M
  ·simp only[BX,BY,B7,and_true,true_and]at M;obtain⟨rfl,rfl⟩:=M;obtain⟨rfl,H⟩:=a4.elim id (λh=>absurd h.1 (by decide));exact del_walk w g n a1 R r a2 z hi hz X hg H a0 u Z h1 a3 fi J ef Y p0 hp hd hk hφ y
end Q10
end Go.Proofs.YtaegajachoklkabGreatEv
