/- slices.DeleteFunc, walked. Printed by delete.py. -/
import Derived.Test.YtadlacffdemoiaaGreatProg
import Derived.Test.YtadlacffdemoiaaGreatEvS
import Derived.Test.YtadlacffdemoiaaGreatE6
import Derived.Shelf.Spec.SlicesInsert
import Derived.Deep.LoopGhost
set_option linter.unusedVariables false
set_option maxRecDepth 100000
set_option linter.unusedVariables false
set_option linter.unusedSimpArgs false
open Array renaming size_setIfInBounds->BA,getElem?_eq_getElem->BD,getElem?_eq_some_iff->BI,getElem?_toList->BM
open Go.Addr.mk renaming injEq->BY
open Go.IntKind renaming wrap_i64->BE
open Go.Value renaming oneCell'->BX
open Go.Value.slice renaming injEq->BR
open List renaming mem_of_getElem?->BC,getElem?_take->BF,length_cons->BG,length_nil->BH,getElem?_eq_none->BN,getElem?_drop->BO,ext_getElem?->BP,size_toArray->BQ,append_nil->BU,take_take->BW
open Nat renaming mul_le_mul_right->BB,add_zero->BK,min_eq_left->BV
open Option renaming isSome_iff_exists->BJ,map_eq_some_iff->BL,bind_some->BT
open Option.some renaming injEq->BS
namespace Go.Proofs.YtadlacffdemoiaaGreatEv
open Go Go.Proofs Go.Shelf Go.RowKit Go.Lib
namespace Q5
set_option maxHeartbeats 4000000 in
theorem del_walk (w:World)(g n O:Nat)(cur:Array Value)(flat:List Value)(ba:TypeInfo)(z:Value)(hi:Tryz.prog.info? 83=some ba)(b0:ba.zero=some z)(ad:z.cells=#[Value.int IntKind.i64 0,Value.int IntKind.i64 0,Value.int IntKind.i64 0,Value.slice none 0 0])
  (hg:w.heap[g]?=some (.cells cur 83 (0,0))) (a2:O<=maxLen) (a4:O*4<=cur.size) (M:cur.toList.take (n*4)=flat) (a6:flat.length=n*4) (a1:∀ u∈flat,u.oneCell'=true) (d1:n<=O)
  (fi:Nat) (caps:Array Value) (ef:fP Tryz.prog fi) (del:Nat->Bool) (p0:Nat) (cw:p0<n) (J:del p0=true) (H:∀ j,j<p0->del j=false)
  (hφ:(∀ w1:World,w.heap.size<=w1.heap.size->(∀ k,k<w.heap.size->k≠g->w1.heap[k]?=w.heap[k]?)->∀ j,j<n->Calls Tryz.prog fi (#[.agg ((flat.drop (j*4)).take 4).toArray]++caps) w1 (λe w2=>e=.returned (.bool (del j))/\Below w1.heap.size w1 w2)))
  (cp:Calls Tryz.prog 72 #[.slice (some ⟨g,0,none⟩) n O,.func (.func fi) #[] caps] w λe w'=>e=.returned (.int .i64 p0)/\Below w.heap.size w w') :
  Calls Tryz.prog 198 #[.slice (some ⟨g,0,none⟩) n O,.func (.func fi) #[] caps] w λe w'=>∃ v',e=.returned v'/\Row w' 83 4 v' (dB del n) (fu 4 del flat n)/\w.grownBy w' (some g)/\v'.ownBlock=some g:=by
 have dc:O<=9223372036854775807:=by simp only[maxLen]at a2;omega
 have hz:¬ ((p0:Int)=-1):=by omega
 have mixed:Tryz.prog.follows .mixedOrders=true:=by kernel_rfl
 have em:IntKind.i64.wrap ((p0:Int)+1)=((p0+1:Nat):Int):=by rw[BE];omega
 have eI:∀ a0 w,(callFunc 72 a0).run Tryz.prog w=.ok (.enter 72 a0) w:=λa0 w=>dn Tryz.func72 (by kernel_rfl) rfl a0 w
 have ev:∀ a0 w,(callFunc fi a0).run Tryz.prog w=.ok (.enter fi a0) w:=ef;have Y:g<w.heap.size:=(BI.1 hg).1;have I:n*4<=cur.size:=Nat.le_trans (BB _ d1) a4;have A:Aside ((∀ j,j<p0->del j=false)/\flat.length=n*4/\cur.toList.take (n*4)=flat/\(∀ w1:World,w.heap.size<=w1.heap.size->(∀ k,k<w.heap.size->k≠g->w1.heap[k]?=w.heap[k]?)->∀ j,j<n->Calls Tryz.prog fi (#[.agg ((flat.drop (j*4)).take 4).toArray]++caps) w1 (λe w2=>e=.returned (.bool (del j))/\Below w1.heap.size w1 w2))/\(∀ u∈flat,u.oneCell'=true)/\O*4<=cur.size/\w.heap[g]?=some (.cells cur 83 (0,0))/\del p0=true/\O<=maxLen/\n*4<=cur.size/\g<w.heap.size/\ba.zero=some z/\z.cells=#[Value.int IntKind.i64 0,Value.int IntKind.i64 0,Value.int IntKind.i64 0,Value.slice none 0 0]/\Tryz.prog.info? 83=some ba):=⟨H,a6,M,hφ,a1,a4,hg,J,a2,I,Y,b0,ad,hi⟩;clear H a6 M hφ a1 a4 hg J a2 I Y b0 ad hi
 go_enter Tryz.func198,Tryz.ntmps198
 go_wp2_with (go_at_fn 72;refine cp.mono ?_;rintro e W ⟨rfl,b4⟩)
 go_loopg [5,6] n (λk s5 s6 wx=>∃ p j:Nat,s5=.int .i64 p/\s6=.int .i64 j/\j<=n/\n<=j+k/\d8 w g n 4 83 cur.size del flat p j wx)
 case atStart =>
  obtain⟨H,a6,M,hφ,a1,a4,hg,J,a2,I,Y,b0,ad,hi⟩:=A.out;have d3:(p0+1)*4<=n*4:=BB _ cw;have hk:=pj (s:=4) (flat:=flat) H (by omega);refine⟨p0,p0+1,rfl,by first|rfl|simp,by omega,by omega,b4.os,b4.tape,b4.output,b4.size,λk hk _=>b4.block k hk,⟨cur,(b4.block g Y).trans hg,rfl,?_,λt _ ht=>?_⟩,?_,by omega⟩
  ·simp only[fu,J,if_true,BU];rw[hk.1,<- M,BW,BV (by omega)]
  ·rw[<- M,BF,if_pos ht,BM]
  ·simp only[dB,J,if_true,BK,hk.2]
 case round =>
  obtain⟨p,j,rfl,rfl,e5,es,hR⟩:=hrel;obtain⟨H,a6,M,hφ,a1,a4,hg,J,a2,I,Y,b0,ad,hi⟩:=A.out;obtain⟨r,X,a5,b9,bl⟩:=hR.row;have cx:=hR.lt;have Z:=hR.size;by_cases hj:j<n
  ·have d2:(j:Int)<(n:Int):=by omega
   have b2:(j+1)*4<=n*4:=BB _ hj;have a3:(p+1)*4<=j*4:=BB _ cx;have hc:∀ t,t<4->∃ u,wr.cell? ⟨g,j*4+t,none⟩=some u/\flat[j*4+t]?=some u:=λt ht =>
    ⟨r[j*4+t]'(by omega),by rw[cell_of_row wr g _ r 83 (0,0) X];exact BD (by omega),by rw[<- bl _ (by omega) (by omega)];exact BD (by omega)⟩
   obtain⟨c0,cu,c5⟩:=hc 0 (by omega);obtain⟨c1,en,cc⟩:=hc 1 (by omega);obtain⟨c2,ed,bx⟩:=hc 2 (by omega);obtain⟨c3,eg,c6⟩:=hc 3 (by omega);rw[BK]at cu;have o0:=a1 c0 (BC c5);have o1:=a1 c1 (BC cc);have o2:=a1 c2 (BC bx);have o3:=a1 c3 (BC c6);have y:(flat.drop (j*4)).take 4=[c0,c1,c2,c3]:=by
    refine BP λi=>?_
    rw[BF];split
    ·rename_i hi;rw[BO];rcases i with _|(_|(_|(_|_)));all_goals first|assumption|omega
    ·rename_i hi;exact (BN (by simp only[BG,BH];omega)).symm
   have cb:(wr.alloc (.cells #[Value.int IntKind.i64 0,Value.int IntKind.i64 0,Value.int IntKind.i64 0,Value.slice none 0 0] 83)).heap[wr.heap.size]?=some (.cells #[Value.int IntKind.i64 0,Value.int IntKind.i64 0,Value.int IntKind.i64 0,Value.slice none 0 0] 83 (0,0)):=heap_alloc_new wr _;obtain⟨W1,e0,k0,s0⟩:=bZ (P:=Tryz.prog) (wr.alloc (.cells #[Value.int IntKind.i64 0,Value.int IntKind.i64 0,Value.int IntKind.i64 0,Value.slice none 0 0] 83)) wr.heap.size 0 _ 83 c0 cb (by simp) o0;obtain⟨W2,e1,k1,s1⟩:=bZ (P:=Tryz.prog) W1 wr.heap.size 1 _ 83 c1 k0 (by simp) o1;obtain⟨W3,e2,k2,s2⟩:=bZ (P:=Tryz.prog) W2 wr.heap.size 2 _ 83 c2 k1 (by simp) o2;obtain⟨W4,e3,k3,s3⟩:=bZ (P:=Tryz.prog) W3 wr.heap.size 3 _ 83 c3 k2 (by simp) o3;have kB:W4.heap[wr.heap.size]?=some (.cells #[c0,c1,c2,c3] 83 (0,0)):=k3;have sB:gf wr.heap.size (wr.alloc (.cells #[Value.int IntKind.i64 0,Value.int IntKind.i64 0,Value.int IntKind.i64 0,Value.slice none 0 0] 83)) W4:=(((s0.trans s1).trans s2).trans s3);have szB:W4.heap.size=wr.heap.size+1:=by rw[sB.size];simp
   have oB:∀ k,k<wr.heap.size->W4.heap[k]?=wr.heap[k]?:=λk hk=>(sB.other k (by omega)).trans (Go.heap_alloc_old wr _ hk)
   have l0:W4.cell? ⟨wr.heap.size,0,none⟩=some c0:=by rw[cell_of_row _ _ _ _ _ _ kB];rfl
   have l1:W4.cell? ⟨wr.heap.size,1,none⟩=some c1:=by rw[cell_of_row _ _ _ _ _ _ kB];rfl
   have l2:W4.cell? ⟨wr.heap.size,2,none⟩=some c2:=by rw[cell_of_row _ _ _ _ _ _ kB];rfl
   have l3:W4.cell? ⟨wr.heap.size,3,none⟩=some c3:=by rw[cell_of_row _ _ _ _ _ _ kB];rfl
   have cφ:=hφ W4 (by omega) (λk hk hn=>(oB k (by omega)).trans (hR.other k hk hn)) j hj;rw[y]at cφ;have e6:IntKind.i64.wrap ((j:Int)+1)=((j+1:Nat):Int):=by rw[BE];omega
   have ec:IntKind.i64.wrap ((p:Int)+1)=((p+1:Nat):Int):=by rw[BE];omega
   have cy:(p:Int)<(n:Int):=by omega
   have B:Aside (wr.heap[g]?=some (.cells r 83 (0,0))/\r.size=cur.size/\d8 w g n 4 83 cur.size del flat p j wr/\(flat.drop (j*4)).take 4=[c0,c1,c2,c3]/\W4.heap[wr.heap.size]?=some (.cells #[c0,c1,c2,c3] 83 (0,0))/\gf wr.heap.size (wr.alloc (.cells #[Value.int IntKind.i64 0,Value.int IntKind.i64 0,Value.int IntKind.i64 0,Value.slice none 0 0] 83)) W4/\W4.heap.size=wr.heap.size+1/\(∀ k,k<wr.heap.size->W4.heap[k]?=wr.heap[k]?)/\w.heap.size<=wr.heap.size/\(j+1)*4<=n*4/\(p+1)*4<=j*4/\n*4<=cur.size/\g<w.heap.size):=⟨X,a5,hR,y,kB,sB,szB,oB,Z,b2,a3,I,Y⟩;clear H a6 M hφ a1 a4 hg J a2 I Y b0 ad hi X a5 b9 bl Z b2 a3 hc y cb kB sB szB oB k0 k1 k2 k3 s0 s1 s2 s3 c5 cc bx c6;cases b3:del j with
   |true =>
    rw[b3]at cφ;have D:Aside (del j=true/\d8 w g n 4 83 cur.size del flat p j wr):=⟨b3,hR⟩;clear b3 hR
    go_wp2
    refine cφ.mono ?_;rintro e W' ⟨rfl,R⟩
    go_wp2
    go_roundg (gk-1)
    case measure=>omega
    case rel =>
     obtain⟨X,a5,_,y,kB,sB,szB,oB,Z,b2,a3,I,Y⟩:=B.out;exact⟨p,j+1,by first|rfl|simp,by first|rfl|simp,by omega,by omega,D.out.2.skip D.out.1 (R.os.trans sB.os) (R.tape.trans sB.tape) (R.output.trans sB.output) (by have:=R.size;omega) (λk hk=>(R.block k (by omega)).trans (oB k hk)) Y⟩
   |false =>
    rw[b3]at cφ;have D:Aside (del j=false/\d8 w g n 4 83 cur.size del flat p j wr):=⟨b3,hR⟩;clear b3 hR
    go_wp2
    refine cφ.mono ?_;rintro e W' ⟨rfl,R⟩;obtain⟨X,a5,hR,y,kB,sB,szB,oB,Z,b2,a3,I,Y⟩:=B.out;have kC:W'.heap[wr.heap.size]?=some (.cells #[c0,c1,c2,c3] 83 (0,0)):=(R.block _ (by omega)).trans kB;have rC:W'.heap[g]?=some (.cells r 83 (0,0)):=(R.block _ (by omega)).trans ((oB g (by omega)).trans X);have m0:W'.cell? ⟨wr.heap.size,0,none⟩=some c0:=by rw[cell_of_row _ _ _ _ _ _ kC];rfl
    have m1:W'.cell? ⟨wr.heap.size,1,none⟩=some c1:=by rw[cell_of_row _ _ _ _ _ _ kC];rfl
    have m2:W'.cell? ⟨wr.heap.size,2,none⟩=some c2:=by rw[cell_of_row _ _ _ _ _ _ kC];rfl
    have m3:W'.cell? ⟨wr.heap.size,3,none⟩=some c3:=by rw[cell_of_row _ _ _ _ _ _ kC];rfl
    obtain⟨V1,f0,q0,r0⟩:=bZ (P:=Tryz.prog) W' g (p*4) _ 83 c0 rC (by (try simp only[BA]);omega) o0;obtain⟨V2,f1,q1,r1⟩:=bZ (P:=Tryz.prog) V1 g (p*4+1) _ 83 c1 q0 (by (try simp only[BA]);omega) o1;obtain⟨V3,f2,q2,r2⟩:=bZ (P:=Tryz.prog) V2 g (p*4+2) _ 83 c2 q1 (by (try simp only[BA]);omega) o2;obtain⟨V4,f3,q3,r3⟩:=bZ (P:=Tryz.prog) V3 g (p*4+3) _ 83 c3 q2 (by (try simp only[BA]);omega) o3;have qV:V4.heap[g]?=some (.cells (gh r (p*4) [c0,c1,c2,c3]) 83 (0,0)):=q3;have sV:gf g W' V4:=(((r0.trans r1).trans r2).trans r3);have E2:Aside (V4.heap[g]?=some (.cells (gh r (p*4) [c0,c1,c2,c3]) 83 (0,0))/\gf g W' V4/\Below W4.heap.size W4 W'):=⟨qV,sV,R⟩;clear qV sV R X a5 hR y kB sB szB oB Z b2 a3 I Y kC rC q0 q1 q2 q3 r0 r1 r2 r3 cφ
    go_wp2
    go_roundg (gk-1)
    case measure=>omega
    case rel =>
     obtain⟨X,a5,_,y,kB,sB,szB,oB,Z,b2,a3,I,Y⟩:=B.out;obtain⟨qV,sV,R⟩:=E2.out;have ej:=R.size;have et:=sV.size;exact⟨p+1,j+1,by first|rfl|simp,by first|rfl|simp,by omega,by omega,D.out.2.keep X D.out.1 (sV.os.trans (R.os.trans sB.os)) (sV.tape.trans (R.tape.trans sB.tape)) (sV.output.trans (R.output.trans sB.output)) (by omega)
      (λk hk hn=>(sV.other k hn).trans ((R.block k (by omega)).trans (oB k hk))) hj I qV rfl y⟩
  ·have bn:j=n:=by omega
   subst bn;have d2:¬ ((j:Int)<(j:Int)):=by omega
   have e4:(0:Int)<=(p:Int):=by omega
   have cy:¬ (O=p):=by omega
   have e7:p<=j:=by omega
   have eb:p<=O:=by omega
   obtain⟨a9,dd,b5,b1⟩:=mF (P:=Tryz.prog) wr 27 83 ba z Tryz.underlying27 hi b0 g (p*4) (j-p) (O-p) r 83 X (by omega) (by rw[ad];simp only[BQ,BG,BH];rw[<- Nat.add_mul];have:(p+(j-p))*4<=O*4:=BB _ (by omega);omega) (by rw[ad];simp[BX]);have B:Aside (wr.heap[g]?=some (.cells r 83 (0,0))/\r.size=cur.size/\d8 w g j 4 83 cur.size del flat p j wr/\r.toList.take (p*4)=fu 4 del flat j/\a9.size=r.size/\a9.toList.take (p*4)=r.toList.take (p*4)/\O<=maxLen/\O*4<=cur.size/\flat.length=j*4):=⟨X,a5,hR,b9,b5,b1,a2,a4,a6⟩;clear H a6 M hφ a1 a4 hg J a2 I Y b0 ad hi X a5 b9 bl Z hR b5 b1
   go_wp2
   go_ret
   obtain⟨X,a5,hR,b9,b5,b1,a2,a4,a6⟩:=B.out;have c4:=pm (s:=4) (del:=del) (flat:=flat) (j:=j) (by omega);have bb:=hR.cnt;refine⟨.slice (some ⟨g,0,none⟩) p O,rfl,⟨c4,.inr ⟨g,O,a9,_,by rw[bb],setRow_heap wr g r a9 83 (0,0) X,by omega,.inl ⟨rfl,a2⟩,by omega,by rw[<- bb,b1,b9]⟩⟩,⟨hR.os,hR.tape,hR.output,by simpa using hR.size,λk hk hn=>(setRow_other wr g k a9 (λh=>hn (by rw[h]))).trans (hR.other k hk (λh=>hn (by rw[h])))⟩,rfl⟩
set_option maxHeartbeats 4000000 in
theorem del_none (w:World)(H I:Value)(u:Calls Tryz.prog 72 #[H,I] w λe z=>e=.returned (.int .i64 (-1))/\Below w.heap.size w z) :
  Calls Tryz.prog 198 #[H,I] w λe z=>e=.returned H/\Below w.heap.size w z:=by
 have mixed:Tryz.prog.follows .mixedOrders=true:=by kernel_rfl
 have J:∀ r w,(callFunc 72 r).run Tryz.prog w=.ok (.enter 72 r) w:=λr w=>dn Tryz.func72 (by kernel_rfl) rfl r w
 go_enter Tryz.func198,Tryz.ntmps198
 go_wp2_with (go_at_fn 72;refine u.mono ?_;rintro e W ⟨rfl,y⟩)
 go_ret
 exact⟨rfl,y⟩
theorem walk:qR Tryz.prog 198 72 83 4 where
 none_:=λw v0 fv n r _ h=>del_none w v0 fv h
 some_:=λw g n Z r fi y a0 p0 H h1 ef hp hd hk hφ I=>by
  have q1:(Tryz.prog.info? 83).isSome=true:=by kernel_rfl
  have q2:((Tryz.prog.info? 83).bind λi=>i.zero).map (λz=>z.cells)=some #[Value.int IntKind.i64 0,Value.int IntKind.i64 0,Value.int IntKind.i64 0,Value.slice none 0 0]:=by kernel_rfl
  obtain⟨a2,hi⟩:=BJ.1 q1;rw[hi]at q2;simp only[BT,BL]at q2;obtain⟨z,hz,a3⟩:=q2;obtain⟨Y,⟨M,_⟩|⟨g',a4,a1,mk,M,hg,O,R,X,u⟩⟩:=H
  ·cases M
  ·simp only[BR,BS,BY,and_true,true_and]at M;obtain⟨rfl,rfl⟩:=M;obtain⟨rfl,J⟩:=R.elim id (λh=>absurd h.1 (by decide));exact del_walk w g n Z a1 r a2 z hi hz a3 hg J X u Y h1 O fi y ef a0 p0 hp hd hk hφ I
end Q5
namespace Q10
set_option maxHeartbeats 4000000 in
theorem del_walk (w:World)(g n O:Nat)(cur:Array Value)(flat:List Value)(ba:TypeInfo)(z:Value)(hi:Tryz.prog.info? 50=some ba)(b0:ba.zero=some z)(ad:z.cells=#[Value.int IntKind.i64 0,Value.int IntKind.i64 0,Value.int IntKind.i64 0,Value.bool false,Value.int IntKind.i64 0])
  (hg:w.heap[g]?=some (.cells cur 50 (0,0))) (a2:O<=maxLen) (a4:O*5<=cur.size) (M:cur.toList.take (n*5)=flat) (a6:flat.length=n*5) (a0:∀ u∈flat,u.oneCell'=true) (d3:n<=O)
  (fi:Nat) (caps:Array Value) (ef:fP Tryz.prog fi) (del:Nat->Bool) (p0:Nat) (cy:p0<n) (J:del p0=true) (H:∀ j,j<p0->del j=false)
  (hφ:(∀ w1:World,w.heap.size<=w1.heap.size->(∀ k,k<w.heap.size->k≠g->w1.heap[k]?=w.heap[k]?)->∀ j,j<n->Calls Tryz.prog fi (#[.agg ((flat.drop (j*5)).take 5).toArray]++caps) w1 (λe w2=>e=.returned (.bool (del j))/\Below w1.heap.size w1 w2)))
  (cw:Calls Tryz.prog 166 #[.slice (some ⟨g,0,none⟩) n O,.func (.func fi) #[] caps] w λe w'=>e=.returned (.int .i64 p0)/\Below w.heap.size w w') :
  Calls Tryz.prog 245 #[.slice (some ⟨g,0,none⟩) n O,.func (.func fi) #[] caps] w λe w'=>∃ v',e=.returned v'/\Row w' 50 5 v' (dB del n) (fu 5 del flat n)/\w.grownBy w' (some g)/\v'.ownBlock=some g:=by
 have e5:O<=9223372036854775807:=by simp only[maxLen]at a2;omega
 have hz:¬ ((p0:Int)=-1):=by omega
 have mixed:Tryz.prog.follows .mixedOrders=true:=by kernel_rfl
 have et:IntKind.i64.wrap ((p0:Int)+1)=((p0+1:Nat):Int):=by rw[BE];omega
 have eI:∀ a1 w,(callFunc 166 a1).run Tryz.prog w=.ok (.enter 166 a1) w:=λa1 w=>dn Tryz.func166 (by kernel_rfl) rfl a1 w
 have f7:∀ a1 w,(callFunc fi a1).run Tryz.prog w=.ok (.enter fi a1) w:=ef;have Y:g<w.heap.size:=(BI.1 hg).1;have I:n*5<=cur.size:=Nat.le_trans (BB _ d3) a4;have A:Aside ((∀ j,j<p0->del j=false)/\flat.length=n*5/\cur.toList.take (n*5)=flat/\(∀ w1:World,w.heap.size<=w1.heap.size->(∀ k,k<w.heap.size->k≠g->w1.heap[k]?=w.heap[k]?)->∀ j,j<n->Calls Tryz.prog fi (#[.agg ((flat.drop (j*5)).take 5).toArray]++caps) w1 (λe w2=>e=.returned (.bool (del j))/\Below w1.heap.size w1 w2))/\(∀ u∈flat,u.oneCell'=true)/\O*5<=cur.size/\w.heap[g]?=some (.cells cur 50 (0,0))/\del p0=true/\O<=maxLen/\n*5<=cur.size/\g<w.heap.size/\ba.zero=some z/\z.cells=#[Value.int IntKind.i64 0,Value.int IntKind.i64 0,Value.int IntKind.i64 0,Value.bool false,Value.int IntKind.i64 0]/\Tryz.prog.info? 50=some ba):=⟨H,a6,M,hφ,a0,a4,hg,J,a2,I,Y,b0,ad,hi⟩;clear H a6 M hφ a0 a4 hg J a2 I Y b0 ad hi
 go_enter Tryz.func245,Tryz.ntmps245
 go_wp2_with (go_at_fn 166;refine cw.mono ?_;rintro e W ⟨rfl,b4⟩)
 go_loopg [5,6] n (λk s5 s6 wx=>∃ p j:Nat,s5=.int .i64 p/\s6=.int .i64 j/\j<=n/\n<=j+k/\d8 w g n 5 50 cur.size del flat p j wx)
 case atStart =>
  obtain⟨H,a6,M,hφ,a0,a4,hg,J,a2,I,Y,b0,ad,hi⟩:=A.out;have dd:(p0+1)*5<=n*5:=BB _ cy;have hk:=pj (s:=5) (flat:=flat) H (by omega);refine⟨p0,p0+1,rfl,by first|rfl|simp,by omega,by omega,b4.os,b4.tape,b4.output,b4.size,λk hk _=>b4.block k hk,⟨cur,(b4.block g Y).trans hg,rfl,?_,λt _ ht=>?_⟩,?_,by omega⟩
  ·simp only[fu,J,if_true,BU];rw[hk.1,<- M,BW,BV (by omega)]
  ·rw[<- M,BF,if_pos ht,BM]
  ·simp only[dB,J,if_true,BK,hk.2]
 case round =>
  obtain⟨p,j,rfl,rfl,eb,ex,hR⟩:=hrel;obtain⟨H,a6,M,hφ,a0,a4,hg,J,a2,I,Y,b0,ad,hi⟩:=A.out;obtain⟨r,X,a5,b9,bl⟩:=hR.row;have d1:=hR.lt;have Z:=hR.size;by_cases hj:j<n
  ·have dc:(j:Int)<(n:Int):=by omega
   have b2:(j+1)*5<=n*5:=BB _ hj;have a3:(p+1)*5<=j*5:=BB _ d1;have hc:∀ t,t<5->∃ u,wr.cell? ⟨g,j*5+t,none⟩=some u/\flat[j*5+t]?=some u:=λt ht =>
    ⟨r[j*5+t]'(by omega),by rw[cell_of_row wr g _ r 50 (0,0) X];exact BD (by omega),by rw[<- bl _ (by omega) (by omega)];exact BD (by omega)⟩
   obtain⟨c0,cx,c6⟩:=hc 0 (by omega);obtain⟨c1,ev,cu⟩:=hc 1 (by omega);obtain⟨c2,em,bx⟩:=hc 2 (by omega);obtain⟨c3,en,cc⟩:=hc 3 (by omega);obtain⟨c4,f6,cb⟩:=hc 4 (by omega);rw[BK]at cx;have o0:=a0 c0 (BC c6);have o1:=a0 c1 (BC cu);have o2:=a0 c2 (BC bx);have o3:=a0 c3 (BC cc);have o4:=a0 c4 (BC cb);have y:(flat.drop (j*5)).take 5=[c0,c1,c2,c3,c4]:=by
    refine BP λi=>?_
    rw[BF];split
    ·rename_i hi;rw[BO];rcases i with _|(_|(_|(_|(_|_))));all_goals first|assumption|omega
    ·rename_i hi;exact (BN (by simp only[BG,BH];omega)).symm
   have cp:(wr.alloc (.cells #[Value.int IntKind.i64 0,Value.int IntKind.i64 0,Value.int IntKind.i64 0,Value.bool false,Value.int IntKind.i64 0] 50)).heap[wr.heap.size]?=some (.cells #[Value.int IntKind.i64 0,Value.int IntKind.i64 0,Value.int IntKind.i64 0,Value.bool false,Value.int IntKind.i64 0] 50 (0,0)):=heap_alloc_new wr _;obtain⟨W1,e0,k0,s0⟩:=bZ (P:=Tryz.prog) (wr.alloc (.cells #[Value.int IntKind.i64 0,Value.int IntKind.i64 0,Value.int IntKind.i64 0,Value.bool false,Value.int IntKind.i64 0] 50)) wr.heap.size 0 _ 50 c0 cp (by simp) o0;obtain⟨W2,e1,k1,s1⟩:=bZ (P:=Tryz.prog) W1 wr.heap.size 1 _ 50 c1 k0 (by simp) o1;obtain⟨W3,e2,k2,s2⟩:=bZ (P:=Tryz.prog) W2 wr.heap.size 2 _ 50 c2 k1 (by simp) o2;obtain⟨W4,e3,k3,s3⟩:=bZ (P:=Tryz.prog) W3 wr.heap.size 3 _ 50 c3 k2 (by simp) o3;obtain⟨W5,e4,k4,s4⟩:=bZ (P:=Tryz.prog) W4 wr.heap.size 4 _ 50 c4 k3 (by simp) o4;have kB:W5.heap[wr.heap.size]?=some (.cells #[c0,c1,c2,c3,c4] 50 (0,0)):=k4;have sB:gf wr.heap.size (wr.alloc (.cells #[Value.int IntKind.i64 0,Value.int IntKind.i64 0,Value.int IntKind.i64 0,Value.bool false,Value.int IntKind.i64 0] 50)) W5:=((((s0.trans s1).trans s2).trans s3).trans s4);have szB:W5.heap.size=wr.heap.size+1:=by rw[sB.size];simp
   have oB:∀ k,k<wr.heap.size->W5.heap[k]?=wr.heap[k]?:=λk hk=>(sB.other k (by omega)).trans (Go.heap_alloc_old wr _ hk)
   have l0:W5.cell? ⟨wr.heap.size,0,none⟩=some c0:=by rw[cell_of_row _ _ _ _ _ _ kB];rfl
   have l1:W5.cell? ⟨wr.heap.size,1,none⟩=some c1:=by rw[cell_of_row _ _ _ _ _ _ kB];rfl
   have l2:W5.cell? ⟨wr.heap.size,2,none⟩=some c2:=by rw[cell_of_row _ _ _ _ _ _ kB];rfl
   have l3:W5.cell? ⟨wr.heap.size,3,none⟩=some c3:=by rw[cell_of_row _ _ _ _ _ _ kB];rfl
   have l4:W5.cell? ⟨wr.heap.size,4,none⟩=some c4:=by rw[cell_of_row _ _ _ _ _ _ kB];rfl
   have cφ:=hφ W5 (by omega) (λk hk hn=>(oB k (by omega)).trans (hR.other k hk hn)) j hj;rw[y]at cφ;have ec:IntKind.i64.wrap ((j:Int)+1)=((j+1:Nat):Int):=by rw[BE];omega
   have ej:IntKind.i64.wrap ((p:Int)+1)=((p+1:Nat):Int):=by rw[BE];omega
   have d2:(p:Int)<(n:Int):=by omega
   have B:Aside (wr.heap[g]?=some (.cells r 50 (0,0))/\r.size=cur.size/\d8 w g n 5 50 cur.size del flat p j wr/\(flat.drop (j*5)).take 5=[c0,c1,c2,c3,c4]/\W5.heap[wr.heap.size]?=some (.cells #[c0,c1,c2,c3,c4] 50 (0,0))/\gf wr.heap.size (wr.alloc (.cells #[Value.int IntKind.i64 0,Value.int IntKind.i64 0,Value.int IntKind.i64 0,Value.bool false,Value.int IntKind.i64 0] 50)) W5/\W5.heap.size=wr.heap.size+1/\(∀ k,k<wr.heap.size->W5.heap[k]?=wr.heap[k]?)/\w.heap.size<=wr.heap.size/\(j+1)*5<=n*5/\(p+1)*5<=j*5/\n*5<=cur.size/\g<w.heap.size):=⟨X,a5,hR,y,kB,sB,szB,oB,Z,b2,a3,I,Y⟩;clear H a6 M hφ a0 a4 hg J a2 I Y b0 ad hi X a5 b9 bl Z b2 a3 hc y cp kB sB szB oB k0 k1 k2 k3 k4 s0 s1 s2 s3 s4 c6 cu bx cc cb;cases b3:del j with
   |true =>
    rw[b3]at cφ;have D:Aside (del j=true/\d8 w g n 5 50 cur.size del flat p j wr):=⟨b3,hR⟩;clear b3 hR
    go_wp2
    refine cφ.mono ?_;rintro e W' ⟨rfl,R⟩
    go_wp2
    go_roundg (gk-1)
    case measure=>omega
    case rel =>
     obtain⟨X,a5,_,y,kB,sB,szB,oB,Z,b2,a3,I,Y⟩:=B.out;exact⟨p,j+1,by first|rfl|simp,by first|rfl|simp,by omega,by omega,D.out.2.skip D.out.1 (R.os.trans sB.os) (R.tape.trans sB.tape) (R.output.trans sB.output) (by have:=R.size;omega) (λk hk=>(R.block k (by omega)).trans (oB k hk)) Y⟩
   |false =>
    rw[b3]at cφ;have D:Aside (del j=false/\d8 w g n 5 50 cur.size del flat p j wr):=⟨b3,hR⟩;clear b3 hR
    go_wp2
    refine cφ.mono ?_;rintro e W' ⟨rfl,R⟩;obtain⟨X,a5,hR,y,kB,sB,szB,oB,Z,b2,a3,I,Y⟩:=B.out;have kC:W'.heap[wr.heap.size]?=some (.cells #[c0,c1,c2,c3,c4] 50 (0,0)):=(R.block _ (by omega)).trans kB;have rC:W'.heap[g]?=some (.cells r 50 (0,0)):=(R.block _ (by omega)).trans ((oB g (by omega)).trans X);have m0:W'.cell? ⟨wr.heap.size,0,none⟩=some c0:=by rw[cell_of_row _ _ _ _ _ _ kC];rfl
    have m1:W'.cell? ⟨wr.heap.size,1,none⟩=some c1:=by rw[cell_of_row _ _ _ _ _ _ kC];rfl
    have m2:W'.cell? ⟨wr.heap.size,2,none⟩=some c2:=by rw[cell_of_row _ _ _ _ _ _ kC];rfl
    have m3:W'.cell? ⟨wr.heap.size,3,none⟩=some c3:=by rw[cell_of_row _ _ _ _ _ _ kC];rfl
    have m4:W'.cell? ⟨wr.heap.size,4,none⟩=some c4:=by rw[cell_of_row _ _ _ _ _ _ kC];rfl
    obtain⟨V1,f0,q0,r0⟩:=bZ (P:=Tryz.prog) W' g (p*5) _ 50 c0 rC (by (try simp only[BA]);omega) o0;obtain⟨V2,f1,q1,r1⟩:=bZ (P:=Tryz.prog) V1 g (p*5+1) _ 50 c1 q0 (by (try simp only[BA]);omega) o1;obtain⟨V3,f2,q2,r2⟩:=bZ (P:=Tryz.prog) V2 g (p*5+2) _ 50 c2 q1 (by (try simp only[BA]);omega) o2;obtain⟨V4,f3,q3,r3⟩:=bZ (P:=Tryz.prog) V3 g (p*5+3) _ 50 c3 q2 (by (try simp only[BA]);omega) o3;obtain⟨V5,f4,q4,r4⟩:=bZ (P:=Tryz.prog) V4 g (p*5+4) _ 50 c4 q3 (by (try simp only[BA]);omega) o4;have qV:V5.heap[g]?=some (.cells (gh r (p*5) [c0,c1,c2,c3,c4]) 50 (0,0)):=q4;have sV:gf g W' V5:=((((r0.trans r1).trans r2).trans r3).trans r4);have E2:Aside (V5.heap[g]?=some (.cells (gh r (p*5) [c0,c1,c2,c3,c4]) 50 (0,0))/\gf g W' V5/\Below W5.heap.size W5 W'):=⟨qV,sV,R⟩;clear qV sV R X a5 hR y kB sB szB oB Z b2 a3 I Y kC rC q0 q1 q2 q3 q4 r0 r1 r2 r3 r4 cφ
    go_wp2
    go_roundg (gk-1)
    case measure=>omega
    case rel =>
     obtain⟨X,a5,_,y,kB,sB,szB,oB,Z,b2,a3,I,Y⟩:=B.out;obtain⟨qV,sV,R⟩:=E2.out;have es:=R.size;have f5:=sV.size;exact⟨p+1,j+1,by first|rfl|simp,by first|rfl|simp,by omega,by omega,D.out.2.keep X D.out.1 (sV.os.trans (R.os.trans sB.os)) (sV.tape.trans (R.tape.trans sB.tape)) (sV.output.trans (R.output.trans sB.output)) (by omega)
      (λk hk hn=>(sV.other k hn).trans ((R.block k (by omega)).trans (oB k hk))) hj I qV rfl y⟩
  ·have bn:j=n:=by omega
   subst bn;have dc:¬ ((j:Int)<(j:Int)):=by omega
   have e7:(0:Int)<=(p:Int):=by omega
   have d2:¬ (O=p):=by omega
   have ed:p<=j:=by omega
   have eg:p<=O:=by omega
   obtain⟨a9,e6,b5,b1⟩:=mF (P:=Tryz.prog) wr 24 50 ba z Tryz.underlying24 hi b0 g (p*5) (j-p) (O-p) r 50 X (by omega) (by rw[ad];simp only[BQ,BG,BH];rw[<- Nat.add_mul];have:(p+(j-p))*5<=O*5:=BB _ (by omega);omega) (by rw[ad];simp[BX]);have B:Aside (wr.heap[g]?=some (.cells r 50 (0,0))/\r.size=cur.size/\d8 w g j 5 50 cur.size del flat p j wr/\r.toList.take (p*5)=fu 5 del flat j/\a9.size=r.size/\a9.toList.take (p*5)=r.toList.take (p*5)/\O<=maxLen/\O*5<=cur.size/\flat.length=j*5):=⟨X,a5,hR,b9,b5,b1,a2,a4,a6⟩;clear H a6 M hφ a0 a4 hg J a2 I Y b0 ad hi X a5 b9 bl Z hR b5 b1
   go_wp2
   go_ret
   obtain⟨X,a5,hR,b9,b5,b1,a2,a4,a6⟩:=B.out;have c5:=pm (s:=5) (del:=del) (flat:=flat) (j:=j) (by omega);have bb:=hR.cnt;refine⟨.slice (some ⟨g,0,none⟩) p O,rfl,⟨c5,.inr ⟨g,O,a9,_,by rw[bb],setRow_heap wr g r a9 50 (0,0) X,by omega,.inl ⟨rfl,a2⟩,by omega,by rw[<- bb,b1,b9]⟩⟩,⟨hR.os,hR.tape,hR.output,by simpa using hR.size,λk hk hn=>(setRow_other wr g k a9 (λh=>hn (by rw[h]))).trans (hR.other k hk (λh=>hn (by rw[h])))⟩,rfl⟩
set_option maxHeartbeats 4000000 in
theorem del_none (w:World)(H I:Value)(u:Calls Tryz.prog 166 #[H,I] w λe z=>e=.returned (.int .i64 (-1))/\Below w.heap.size w z) :
  Calls Tryz.prog 245 #[H,I] w λe z=>e=.returned H/\Below w.heap.size w z:=by
 have mixed:Tryz.prog.follows .mixedOrders=true:=by kernel_rfl
 have J:∀ r w,(callFunc 166 r).run Tryz.prog w=.ok (.enter 166 r) w:=λr w=>dn Tryz.func166 (by kernel_rfl) rfl r w
 go_enter Tryz.func245,Tryz.ntmps245
 go_wp2_with (go_at_fn 166;refine u.mono ?_;rintro e W ⟨rfl,y⟩)
 go_ret
 exact⟨rfl,y⟩
theorem walk:qR Tryz.prog 245 166 50 5 where
 none_:=λw v0 fv n r _ h=>del_none w v0 fv h
 some_:=λw g n Z r fi y a0 p0 H h1 ef hp hd hk hφ I=>by
  have q1:(Tryz.prog.info? 50).isSome=true:=by kernel_rfl
  have q2:((Tryz.prog.info? 50).bind λi=>i.zero).map (λz=>z.cells)=some #[Value.int IntKind.i64 0,Value.int IntKind.i64 0,Value.int IntKind.i64 0,Value.bool false,Value.int IntKind.i64 0]:=by kernel_rfl
  obtain⟨a2,hi⟩:=BJ.1 q1;rw[hi]at q2;simp only[BT,BL]at q2;obtain⟨z,hz,a3⟩:=q2;obtain⟨Y,⟨M,_⟩|⟨g',a4,a1,mk,M,hg,O,R,X,u⟩⟩:=H
  ·cases M
  ·simp only[BR,BS,BY,and_true,true_and]at M;obtain⟨rfl,rfl⟩:=M;obtain⟨rfl,J⟩:=R.elim id (λh=>absurd h.1 (by decide));exact del_walk w g n Z a1 r a2 z hi hz a3 hg J X u Y h1 O fi y ef a0 p0 hp hd hk hφ I
end Q10
end Go.Proofs.YtadlacffdemoiaaGreatEv
