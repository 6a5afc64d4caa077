/- slices.DeleteFunc, walked. Printed by delete.py. -/
import Derived.Test.YtadlacffdemoiaaGreatProg
import Derived.Test.YtadlacffdemoiaaGreatEvS
import Derived.Test.YtadlacffdemoiaaGreatE6
import Derived.Shelf.Spec.SlicesInsert
import Derived.Deep.LoopGhost
set_option linter.unusedVariables false
set_option maxRecDepth 100000
set_option linter.unusedVariables false
set_option linter.unusedSimpArgs false
open Array renaming size_setIfInBounds->BV,getElem?_eq_getElem->BY,getElem?_eq_some_iff->B6,getElem?_toList->CA
open Go.Addr.mk renaming injEq->CM
open Go.IntKind renaming wrap_i64->BZ
open Go.Value renaming oneCell'->CL
open Go.Value.slice renaming injEq->CF
open List renaming mem_of_getElem?->BX,getElem?_take->B3,length_cons->B4,length_nil->B5,getElem?_eq_none->CB,getElem?_drop->CC,ext_getElem?->CD,size_toArray->CE,append_nil->CI,take_take->CK
open Nat renaming mul_le_mul_right->BW,add_zero->B8,min_eq_left->CJ
open Option renaming isSome_iff_exists->B7,map_eq_some_iff->B9,bind_some->CH
open Option.some renaming injEq->CG
namespace Go.Proofs.YtadlacffdemoiaaGreatEv
open Go Go.Proofs Go.Shelf Go.RowKit Go.Lib
namespace Q5
set_option maxHeartbeats 4000000 in
theorem del_walk (w:World)(g n R:Nat)(cur:Array Value)(flat:List Value)(ba:TypeInfo)(z:Value)(hi:Tryz.prog.info? 83=some ba)(b0:ba.zero=some z)(ad:z.cells=#[Value.int IntKind.i64 0,Value.int IntKind.i64 0,Value.int IntKind.i64 0,Value.slice none 0 0])
  (hg:w.heap[g]?=some (.cells cur 83 (0,0))) (a1:R<=maxLen) (a4:R*4<=cur.size) (J:cur.toList.take (n*4)=flat) (a9:flat.length=n*4) (a2:∀ u∈flat,u.oneCell'=true) (d1:n<=R)
  (fi:Nat) (caps:Array Value) (ef:fV Tryz.prog fi) (del:Nat->Bool) (p0:Nat) (cu:p0<n) (M:del p0=true) (H:∀ j,j<p0->del j=false)
  (hφ:(∀ w1:World,w.heap.size<=w1.heap.size->(∀ k,k<w.heap.size->k≠g->w1.heap[k]?=w.heap[k]?)->∀ j,j<n->Calls Tryz.prog fi (#[.agg ((flat.drop (j*4)).take 4).toArray]++caps) w1 (λe w2=>e=.returned (.bool (del j))/\Below w1.heap.size w1 w2)))
  (c5:Calls Tryz.prog 72 #[.slice (some ⟨g,0,none⟩) n R,.func (.func fi) #[] caps] w λe w'=>e=.returned (.int .i64 p0)/\Below w.heap.size w w') :
  Calls Tryz.prog 198 #[.slice (some ⟨g,0,none⟩) n R,.func (.func fi) #[] caps] w λe w'=>∃ v',e=.returned v'/\Row w' 83 4 v' (dD del n) (fA 4 del flat n)/\w.grownBy w' (some g)/\v'.ownBlock=some g:=by
 have d3:R<=9223372036854775807:=by simp only[maxLen]at a1;omega
 have hz:¬ ((p0:Int)=-1):=by omega
 have mixed:Tryz.prog.follows .mixedOrders=true:=by kernel_rfl
 have em:IntKind.i64.wrap ((p0:Int)+1)=((p0+1:Nat):Int):=by rw[BZ];omega
 have eI:∀ a0 w,(callFunc 72 a0).run Tryz.prog w=.ok (.enter 72 a0) w:=λa0 w=>dn Tryz.func72 (by kernel_rfl) rfl a0 w
 have e7:∀ a0 w,(callFunc fi a0).run Tryz.prog w=.ok (.enter fi a0) w:=ef;have Y:g<w.heap.size:=(B6.1 hg).1;have I:n*4<=cur.size:=Nat.le_trans (BW _ d1) a4;have A:Aside ((∀ j,j<p0->del j=false)/\flat.length=n*4/\cur.toList.take (n*4)=flat/\(∀ w1:World,w.heap.size<=w1.heap.size->(∀ k,k<w.heap.size->k≠g->w1.heap[k]?=w.heap[k]?)->∀ j,j<n->Calls Tryz.prog fi (#[.agg ((flat.drop (j*4)).take 4).toArray]++caps) w1 (λe w2=>e=.returned (.bool (del j))/\Below w1.heap.size w1 w2))/\(∀ u∈flat,u.oneCell'=true)/\R*4<=cur.size/\w.heap[g]?=some (.cells cur 83 (0,0))/\del p0=true/\R<=maxLen/\n*4<=cur.size/\g<w.heap.size/\ba.zero=some z/\z.cells=#[Value.int IntKind.i64 0,Value.int IntKind.i64 0,Value.int IntKind.i64 0,Value.slice none 0 0]/\Tryz.prog.info? 83=some ba):=⟨H,a9,J,hφ,a2,a4,hg,M,a1,I,Y,b0,ad,hi⟩;clear H a9 J hφ a2 a4 hg M a1 I Y b0 ad hi
 go_enter Tryz.func198,Tryz.ntmps198
 go_wp2_with (go_at_fn 72;refine c5.mono ?_;rintro e W ⟨rfl,b2⟩)
 go_loopg [5,6] n (λk s5 s6 wx=>∃ p j:Nat,s5=.int .i64 p/\s6=.int .i64 j/\j<=n/\n<=j+k/\eh w g n 4 83 cur.size del flat p j wx)
 case atStart =>
  obtain⟨H,a9,J,hφ,a2,a4,hg,M,a1,I,Y,b0,ad,hi⟩:=A.out;have dd:(p0+1)*4<=n*4:=BW _ cu;have hk:=pE (s:=4) (flat:=flat) H (by omega);refine⟨p0,p0+1,rfl,by first|rfl|simp,by omega,by omega,b2.os,b2.tape,b2.output,b2.size,λk hk _=>b2.block k hk,⟨cur,(b2.block g Y).trans hg,rfl,?_,λt _ ht=>?_⟩,?_,by omega⟩
  ·simp only[fA,M,if_true,CI];rw[hk.1,<- J,CK,CJ (by omega)]
  ·rw[<- J,B3,if_pos ht,CA]
  ·simp only[dD,M,if_true,B8,hk.2]
 case round =>
  obtain⟨p,j,rfl,rfl,e5,e6,hR⟩:=hrel;obtain⟨H,a9,J,hφ,a2,a4,hg,M,a1,I,Y,b0,ad,hi⟩:=A.out;obtain⟨r,X,a5,b9,bl⟩:=hR.row;have cy:=hR.lt;have Z:=hR.size;by_cases hj:j<n
  ·have cw:(j:Int)<(n:Int):=by omega
   have b3:(j+1)*4<=n*4:=BW _ hj;have a3:(p+1)*4<=j*4:=BW _ cy;have hc:∀ t,t<4->∃ u,wr.cell? ⟨g,j*4+t,none⟩=some u/\flat[j*4+t]?=some u:=λt ht =>
    ⟨r[j*4+t]'(by omega),by rw[cell_of_row wr g _ r 83 (0,0) X];exact BY (by omega),by rw[<- bl _ (by omega) (by omega)];exact BY (by omega)⟩
   obtain⟨c0,d2,c6⟩:=hc 0 (by omega);obtain⟨c1,ej,bn⟩:=hc 1 (by omega);obtain⟨c2,eg,c4⟩:=hc 2 (by omega);obtain⟨c3,ev,cc⟩:=hc 3 (by omega);rw[B8]at d2;have o0:=a2 c0 (BX c6);have o1:=a2 c1 (BX bn);have o2:=a2 c2 (BX c4);have o3:=a2 c3 (BX cc);have y:(flat.drop (j*4)).take 4=[c0,c1,c2,c3]:=by
    refine CD λi=>?_
    rw[B3];split
    ·rename_i hi;rw[CC];rcases i with _|(_|(_|(_|_)));all_goals first|assumption|omega
    ·rename_i hi;exact (CB (by simp only[B4,B5];omega)).symm
   have bx:(wr.alloc (.cells #[Value.int IntKind.i64 0,Value.int IntKind.i64 0,Value.int IntKind.i64 0,Value.slice none 0 0] 83)).heap[wr.heap.size]?=some (.cells #[Value.int IntKind.i64 0,Value.int IntKind.i64 0,Value.int IntKind.i64 0,Value.slice none 0 0] 83 (0,0)):=heap_alloc_new wr _;obtain⟨W1,e0,k0,s0⟩:=b6 (P:=Tryz.prog) (wr.alloc (.cells #[Value.int IntKind.i64 0,Value.int IntKind.i64 0,Value.int IntKind.i64 0,Value.slice none 0 0] 83)) wr.heap.size 0 _ 83 c0 bx (by simp) o0;obtain⟨W2,e1,k1,s1⟩:=b6 (P:=Tryz.prog) W1 wr.heap.size 1 _ 83 c1 k0 (by simp) o1;obtain⟨W3,e2,k2,s2⟩:=b6 (P:=Tryz.prog) W2 wr.heap.size 2 _ 83 c2 k1 (by simp) o2;obtain⟨W4,e3,k3,s3⟩:=b6 (P:=Tryz.prog) W3 wr.heap.size 3 _ 83 c3 k2 (by simp) o3;have kB:W4.heap[wr.heap.size]?=some (.cells #[c0,c1,c2,c3] 83 (0,0)):=k3;have sB:gn wr.heap.size (wr.alloc (.cells #[Value.int IntKind.i64 0,Value.int IntKind.i64 0,Value.int IntKind.i64 0,Value.slice none 0 0] 83)) W4:=(((s0.trans s1).trans s2).trans s3);have szB:W4.heap.size=wr.heap.size+1:=by rw[sB.size];simp
   have oB:∀ k,k<wr.heap.size->W4.heap[k]?=wr.heap[k]?:=λk hk=>(sB.other k (by omega)).trans (Go.heap_alloc_old wr _ hk)
   have l0:W4.cell? ⟨wr.heap.size,0,none⟩=some c0:=by rw[cell_of_row _ _ _ _ _ _ kB];rfl
   have l1:W4.cell? ⟨wr.heap.size,1,none⟩=some c1:=by rw[cell_of_row _ _ _ _ _ _ kB];rfl
   have l2:W4.cell? ⟨wr.heap.size,2,none⟩=some c2:=by rw[cell_of_row _ _ _ _ _ _ kB];rfl
   have l3:W4.cell? ⟨wr.heap.size,3,none⟩=some c3:=by rw[cell_of_row _ _ _ _ _ _ kB];rfl
   have cφ:=hφ W4 (by omega) (λk hk hn=>(oB k (by omega)).trans (hR.other k hk hn)) j hj;rw[y]at cφ;have en:IntKind.i64.wrap ((j:Int)+1)=((j+1:Nat):Int):=by rw[BZ];omega
   have eb:IntKind.i64.wrap ((p:Int)+1)=((p+1:Nat):Int):=by rw[BZ];omega
   have cx:(p:Int)<(n:Int):=by omega
   have B:Aside (wr.heap[g]?=some (.cells r 83 (0,0))/\r.size=cur.size/\eh w g n 4 83 cur.size del flat p j wr/\(flat.drop (j*4)).take 4=[c0,c1,c2,c3]/\W4.heap[wr.heap.size]?=some (.cells #[c0,c1,c2,c3] 83 (0,0))/\gn wr.heap.size (wr.alloc (.cells #[Value.int IntKind.i64 0,Value.int IntKind.i64 0,Value.int IntKind.i64 0,Value.slice none 0 0] 83)) W4/\W4.heap.size=wr.heap.size+1/\(∀ k,k<wr.heap.size->W4.heap[k]?=wr.heap[k]?)/\w.heap.size<=wr.heap.size/\(j+1)*4<=n*4/\(p+1)*4<=j*4/\n*4<=cur.size/\g<w.heap.size):=⟨X,a5,hR,y,kB,sB,szB,oB,Z,b3,a3,I,Y⟩;clear H a9 J hφ a2 a4 hg M a1 I Y b0 ad hi X a5 b9 bl Z b3 a3 hc y bx kB sB szB oB k0 k1 k2 k3 s0 s1 s2 s3 c6 bn c4 cc;cases b4:del j with
   |true =>
    rw[b4]at cφ;have D:Aside (del j=true/\eh w g n 4 83 cur.size del flat p j wr):=⟨b4,hR⟩;clear b4 hR
    go_wp2
    refine cφ.mono ?_;rintro e W' ⟨rfl,O⟩
    go_wp2
    go_roundg (gk-1)
    case measure=>omega
    case rel =>
     obtain⟨X,a5,_,y,kB,sB,szB,oB,Z,b3,a3,I,Y⟩:=B.out;exact⟨p,j+1,by first|rfl|simp,by first|rfl|simp,by omega,by omega,D.out.2.skip D.out.1 (O.os.trans sB.os) (O.tape.trans sB.tape) (O.output.trans sB.output) (by have:=O.size;omega) (λk hk=>(O.block k (by omega)).trans (oB k hk)) Y⟩
   |false =>
    rw[b4]at cφ;have D:Aside (del j=false/\eh w g n 4 83 cur.size del flat p j wr):=⟨b4,hR⟩;clear b4 hR
    go_wp2
    refine cφ.mono ?_;rintro e W' ⟨rfl,O⟩;obtain⟨X,a5,hR,y,kB,sB,szB,oB,Z,b3,a3,I,Y⟩:=B.out;have kC:W'.heap[wr.heap.size]?=some (.cells #[c0,c1,c2,c3] 83 (0,0)):=(O.block _ (by omega)).trans kB;have rC:W'.heap[g]?=some (.cells r 83 (0,0)):=(O.block _ (by omega)).trans ((oB g (by omega)).trans X);have m0:W'.cell? ⟨wr.heap.size,0,none⟩=some c0:=by rw[cell_of_row _ _ _ _ _ _ kC];rfl
    have m1:W'.cell? ⟨wr.heap.size,1,none⟩=some c1:=by rw[cell_of_row _ _ _ _ _ _ kC];rfl
    have m2:W'.cell? ⟨wr.heap.size,2,none⟩=some c2:=by rw[cell_of_row _ _ _ _ _ _ kC];rfl
    have m3:W'.cell? ⟨wr.heap.size,3,none⟩=some c3:=by rw[cell_of_row _ _ _ _ _ _ kC];rfl
    obtain⟨V1,f0,q0,r0⟩:=b6 (P:=Tryz.prog) W' g (p*4) _ 83 c0 rC (by (try simp only[BV]);omega) o0;obtain⟨V2,f1,q1,r1⟩:=b6 (P:=Tryz.prog) V1 g (p*4+1) _ 83 c1 q0 (by (try simp only[BV]);omega) o1;obtain⟨V3,f2,q2,r2⟩:=b6 (P:=Tryz.prog) V2 g (p*4+2) _ 83 c2 q1 (by (try simp only[BV]);omega) o2;obtain⟨V4,f3,q3,r3⟩:=b6 (P:=Tryz.prog) V3 g (p*4+3) _ 83 c3 q2 (by (try simp only[BV]);omega) o3;have qV:V4.heap[g]?=some (.cells (gp r (p*4) [c0,c1,c2,c3]) 83 (0,0)):=q3;have sV:gn g W' V4:=(((r0.trans r1).trans r2).trans r3);have E2:Aside (V4.heap[g]?=some (.cells (gp r (p*4) [c0,c1,c2,c3]) 83 (0,0))/\gn g W' V4/\Below W4.heap.size W4 W'):=⟨qV,sV,O⟩;clear qV sV O X a5 hR y kB sB szB oB Z b3 a3 I Y kC rC q0 q1 q2 q3 r0 r1 r2 r3 cφ
    go_wp2
    go_roundg (gk-1)
    case measure=>omega
    case rel =>
     obtain⟨X,a5,_,y,kB,sB,szB,oB,Z,b3,a3,I,Y⟩:=B.out;obtain⟨qV,sV,O⟩:=E2.out;have ed:=O.size;have et:=sV.size;exact⟨p+1,j+1,by first|rfl|simp,by first|rfl|simp,by omega,by omega,D.out.2.keep X D.out.1 (sV.os.trans (O.os.trans sB.os)) (sV.tape.trans (O.tape.trans sB.tape)) (sV.output.trans (O.output.trans sB.output)) (by omega)
      (λk hk hn=>(sV.other k hn).trans ((O.block k (by omega)).trans (oB k hk))) hj I qV rfl y⟩
  ·have cb:j=n:=by omega
   subst cb;have cw:¬ ((j:Int)<(j:Int)):=by omega
   have e4:(0:Int)<=(p:Int):=by omega
   have cx:¬ (R=p):=by omega
   have ec:p<=j:=by omega
   have es:p<=R:=by omega
   obtain⟨a6,dc,b5,b1⟩:=mQ (P:=Tryz.prog) wr 27 83 ba z Tryz.underlying27 hi b0 g (p*4) (j-p) (R-p) r 83 X (by omega) (by rw[ad];simp only[CE,B4,B5];rw[<- Nat.add_mul];have:(p+(j-p))*4<=R*4:=BW _ (by omega);omega) (by rw[ad];simp[CL]);have B:Aside (wr.heap[g]?=some (.cells r 83 (0,0))/\r.size=cur.size/\eh w g j 4 83 cur.size del flat p j wr/\r.toList.take (p*4)=fA 4 del flat j/\a6.size=r.size/\a6.toList.take (p*4)=r.toList.take (p*4)/\R<=maxLen/\R*4<=cur.size/\flat.length=j*4):=⟨X,a5,hR,b9,b5,b1,a1,a4,a9⟩;clear H a9 J hφ a2 a4 hg M a1 I Y b0 ad hi X a5 b9 bl Z hR b5 b1
   go_wp2
   go_ret
   obtain⟨X,a5,hR,b9,b5,b1,a1,a4,a9⟩:=B.out;have cp:=pF (s:=4) (del:=del) (flat:=flat) (j:=j) (by omega);have bb:=hR.cnt;refine⟨.slice (some ⟨g,0,none⟩) p R,rfl,⟨cp,.inr ⟨g,R,a6,_,by rw[bb],setRow_heap wr g r a6 83 (0,0) X,by omega,.inl ⟨rfl,a1⟩,by omega,by rw[<- bb,b1,b9]⟩⟩,⟨hR.os,hR.tape,hR.output,by simpa using hR.size,λk hk hn=>(setRow_other wr g k a6 (λh=>hn (by rw[h]))).trans (hR.other k hk (λh=>hn (by rw[h])))⟩,rfl⟩
set_option maxHeartbeats 4000000 in
theorem del_none (w:World)(H I:Value)(u:Calls Tryz.prog 72 #[H,I] w λe y=>e=.returned (.int .i64 (-1))/\Below w.heap.size w y) :
  Calls Tryz.prog 198 #[H,I] w λe y=>e=.returned H/\Below w.heap.size w y:=by
 have mixed:Tryz.prog.follows .mixedOrders=true:=by kernel_rfl
 have J:∀ r w,(callFunc 72 r).run Tryz.prog w=.ok (.enter 72 r) w:=λr w=>dn Tryz.func72 (by kernel_rfl) rfl r w
 go_enter Tryz.func198,Tryz.ntmps198
 go_wp2_with (go_at_fn 72;refine u.mono ?_;rintro e W ⟨rfl,z⟩)
 go_ret
 exact⟨rfl,z⟩
theorem walk:re Tryz.prog 198 72 83 4 where
 none_:=λw v0 fv n r _ h=>del_none w v0 fv h
 some_:=λw g n a3 r fi I a1 p0 J h1 ef hp hd hk hφ y=>by
  have q1:(Tryz.prog.info? 83).isSome=true:=by kernel_rfl
  have q2:((Tryz.prog.info? 83).bind λi=>i.zero).map (λz=>z.cells)=some #[Value.int IntKind.i64 0,Value.int IntKind.i64 0,Value.int IntKind.i64 0,Value.slice none 0 0]:=by kernel_rfl
  obtain⟨Z,hi⟩:=B7.1 q1;rw[hi]at q2;simp only[CH,B9]at q2;obtain⟨z,hz,a2⟩:=q2;obtain⟨a0,⟨M,_⟩|⟨g',a4,O,mk,M,hg,Y,R,X,u⟩⟩:=J
  ·cases M
  ·simp only[CF,CG,CM,and_true,true_and]at M;obtain⟨rfl,rfl⟩:=M;obtain⟨rfl,H⟩:=R.elim id (λh=>absurd h.1 (by decide));exact del_walk w g n a3 O r Z z hi hz a2 hg H X u a0 h1 Y fi I ef a1 p0 hp hd hk hφ y
end Q5
namespace Q10
set_option maxHeartbeats 4000000 in
theorem del_walk (w:World)(g n R:Nat)(cur:Array Value)(flat:List Value)(ba:TypeInfo)(z:Value)(hi:Tryz.prog.info? 50=some ba)(b0:ba.zero=some z)(ad:z.cells=#[Value.int IntKind.i64 0,Value.int IntKind.i64 0,Value.int IntKind.i64 0,Value.bool false,Value.int IntKind.i64 0])
  (hg:w.heap[g]?=some (.cells cur 50 (0,0))) (a2:R<=maxLen) (a4:R*5<=cur.size) (J:cur.toList.take (n*5)=flat) (a9:flat.length=n*5) (a1:∀ u∈flat,u.oneCell'=true) (d3:n<=R)
  (fi:Nat) (caps:Array Value) (ef:fV Tryz.prog fi) (del:Nat->Bool) (p0:Nat) (cx:p0<n) (M:del p0=true) (H:∀ j,j<p0->del j=false)
  (hφ:(∀ w1:World,w.heap.size<=w1.heap.size->(∀ k,k<w.heap.size->k≠g->w1.heap[k]?=w.heap[k]?)->∀ j,j<n->Calls Tryz.prog fi (#[.agg ((flat.drop (j*5)).take 5).toArray]++caps) w1 (λe w2=>e=.returned (.bool (del j))/\Below w1.heap.size w1 w2)))
  (cb:Calls Tryz.prog 166 #[.slice (some ⟨g,0,none⟩) n R,.func (.func fi) #[] caps] w λe w'=>e=.returned (.int .i64 p0)/\Below w.heap.size w w') :
  Calls Tryz.prog 245 #[.slice (some ⟨g,0,none⟩) n R,.func (.func fi) #[] caps] w λe w'=>∃ v',e=.returned v'/\Row w' 50 5 v' (dD del n) (fA 5 del flat n)/\w.grownBy w' (some g)/\v'.ownBlock=some g:=by
 have dd:R<=9223372036854775807:=by simp only[maxLen]at a2;omega
 have hz:¬ ((p0:Int)=-1):=by omega
 have mixed:Tryz.prog.follows .mixedOrders=true:=by kernel_rfl
 have ev:IntKind.i64.wrap ((p0:Int)+1)=((p0+1:Nat):Int):=by rw[BZ];omega
 have eI:∀ a0 w,(callFunc 166 a0).run Tryz.prog w=.ok (.enter 166 a0) w:=λa0 w=>dn Tryz.func166 (by kernel_rfl) rfl a0 w
 have eg:∀ a0 w,(callFunc fi a0).run Tryz.prog w=.ok (.enter fi a0) w:=ef;have Y:g<w.heap.size:=(B6.1 hg).1;have I:n*5<=cur.size:=Nat.le_trans (BW _ d3) a4;have A:Aside ((∀ j,j<p0->del j=false)/\flat.length=n*5/\cur.toList.take (n*5)=flat/\(∀ w1:World,w.heap.size<=w1.heap.size->(∀ k,k<w.heap.size->k≠g->w1.heap[k]?=w.heap[k]?)->∀ j,j<n->Calls Tryz.prog fi (#[.agg ((flat.drop (j*5)).take 5).toArray]++caps) w1 (λe w2=>e=.returned (.bool (del j))/\Below w1.heap.size w1 w2))/\(∀ u∈flat,u.oneCell'=true)/\R*5<=cur.size/\w.heap[g]?=some (.cells cur 50 (0,0))/\del p0=true/\R<=maxLen/\n*5<=cur.size/\g<w.heap.size/\ba.zero=some z/\z.cells=#[Value.int IntKind.i64 0,Value.int IntKind.i64 0,Value.int IntKind.i64 0,Value.bool false,Value.int IntKind.i64 0]/\Tryz.prog.info? 50=some ba):=⟨H,a9,J,hφ,a1,a4,hg,M,a2,I,Y,b0,ad,hi⟩;clear H a9 J hφ a1 a4 hg M a2 I Y b0 ad hi
 go_enter Tryz.func245,Tryz.ntmps245
 go_wp2_with (go_at_fn 166;refine cb.mono ?_;rintro e W ⟨rfl,b2⟩)
 go_loopg [5,6] n (λk s5 s6 wx=>∃ p j:Nat,s5=.int .i64 p/\s6=.int .i64 j/\j<=n/\n<=j+k/\eh w g n 5 50 cur.size del flat p j wx)
 case atStart =>
  obtain⟨H,a9,J,hφ,a1,a4,hg,M,a2,I,Y,b0,ad,hi⟩:=A.out;have e6:(p0+1)*5<=n*5:=BW _ cx;have hk:=pE (s:=5) (flat:=flat) H (by omega);refine⟨p0,p0+1,rfl,by first|rfl|simp,by omega,by omega,b2.os,b2.tape,b2.output,b2.size,λk hk _=>b2.block k hk,⟨cur,(b2.block g Y).trans hg,rfl,?_,λt _ ht=>?_⟩,?_,by omega⟩
  ·simp only[fA,M,if_true,CI];rw[hk.1,<- J,CK,CJ (by omega)]
  ·rw[<- J,B3,if_pos ht,CA]
  ·simp only[dD,M,if_true,B8,hk.2]
 case round =>
  obtain⟨p,j,rfl,rfl,ec,ed,hR⟩:=hrel;obtain⟨H,a9,J,hφ,a1,a4,hg,M,a2,I,Y,b0,ad,hi⟩:=A.out;obtain⟨r,X,a5,b9,bl⟩:=hR.row;have d2:=hR.lt;have Z:=hR.size;by_cases hj:j<n
  ·have cy:(j:Int)<(n:Int):=by omega
   have b3:(j+1)*5<=n*5:=BW _ hj;have a3:(p+1)*5<=j*5:=BW _ d2;have hc:∀ t,t<5->∃ u,wr.cell? ⟨g,j*5+t,none⟩=some u/\flat[j*5+t]?=some u:=λt ht =>
    ⟨r[j*5+t]'(by omega),by rw[cell_of_row wr g _ r 50 (0,0) X];exact BY (by omega),by rw[<- bl _ (by omega) (by omega)];exact BY (by omega)⟩
   obtain⟨c0,dc,cc⟩:=hc 0 (by omega);obtain⟨c1,et,bx⟩:=hc 1 (by omega);obtain⟨c2,es,c6⟩:=hc 2 (by omega);obtain⟨c3,f5,cu⟩:=hc 3 (by omega);obtain⟨c4,eb,bn⟩:=hc 4 (by omega);rw[B8]at dc;have o0:=a1 c0 (BX cc);have o1:=a1 c1 (BX bx);have o2:=a1 c2 (BX c6);have o3:=a1 c3 (BX cu);have o4:=a1 c4 (BX bn);have y:(flat.drop (j*5)).take 5=[c0,c1,c2,c3,c4]:=by
    refine CD λi=>?_
    rw[B3];split
    ·rename_i hi;rw[CC];rcases i with _|(_|(_|(_|(_|_))));all_goals first|assumption|omega
    ·rename_i hi;exact (CB (by simp only[B4,B5];omega)).symm
   have c5:(wr.alloc (.cells #[Value.int IntKind.i64 0,Value.int IntKind.i64 0,Value.int IntKind.i64 0,Value.bool false,Value.int IntKind.i64 0] 50)).heap[wr.heap.size]?=some (.cells #[Value.int IntKind.i64 0,Value.int IntKind.i64 0,Value.int IntKind.i64 0,Value.bool false,Value.int IntKind.i64 0] 50 (0,0)):=heap_alloc_new wr _;obtain⟨W1,e0,k0,s0⟩:=b6 (P:=Tryz.prog) (wr.alloc (.cells #[Value.int IntKind.i64 0,Value.int IntKind.i64 0,Value.int IntKind.i64 0,Value.bool false,Value.int IntKind.i64 0] 50)) wr.heap.size 0 _ 50 c0 c5 (by simp) o0;obtain⟨W2,e1,k1,s1⟩:=b6 (P:=Tryz.prog) W1 wr.heap.size 1 _ 50 c1 k0 (by simp) o1;obtain⟨W3,e2,k2,s2⟩:=b6 (P:=Tryz.prog) W2 wr.heap.size 2 _ 50 c2 k1 (by simp) o2;obtain⟨W4,e3,k3,s3⟩:=b6 (P:=Tryz.prog) W3 wr.heap.size 3 _ 50 c3 k2 (by simp) o3;obtain⟨W5,e4,k4,s4⟩:=b6 (P:=Tryz.prog) W4 wr.heap.size 4 _ 50 c4 k3 (by simp) o4;have kB:W5.heap[wr.heap.size]?=some (.cells #[c0,c1,c2,c3,c4] 50 (0,0)):=k4;have sB:gn wr.heap.size (wr.alloc (.cells #[Value.int IntKind.i64 0,Value.int IntKind.i64 0,Value.int IntKind.i64 0,Value.bool false,Value.int IntKind.i64 0] 50)) W5:=((((s0.trans s1).trans s2).trans s3).trans s4);have szB:W5.heap.size=wr.heap.size+1:=by rw[sB.size];simp
   have oB:∀ k,k<wr.heap.size->W5.heap[k]?=wr.heap[k]?:=λk hk=>(sB.other k (by omega)).trans (Go.heap_alloc_old wr _ hk)
   have l0:W5.cell? ⟨wr.heap.size,0,none⟩=some c0:=by rw[cell_of_row _ _ _ _ _ _ kB];rfl
   have l1:W5.cell? ⟨wr.heap.size,1,none⟩=some c1:=by rw[cell_of_row _ _ _ _ _ _ kB];rfl
   have l2:W5.cell? ⟨wr.heap.size,2,none⟩=some c2:=by rw[cell_of_row _ _ _ _ _ _ kB];rfl
   have l3:W5.cell? ⟨wr.heap.size,3,none⟩=some c3:=by rw[cell_of_row _ _ _ _ _ _ kB];rfl
   have l4:W5.cell? ⟨wr.heap.size,4,none⟩=some c4:=by rw[cell_of_row _ _ _ _ _ _ kB];rfl
   have cφ:=hφ W5 (by omega) (λk hk hn=>(oB k (by omega)).trans (hR.other k hk hn)) j hj;rw[y]at cφ;have ex:IntKind.i64.wrap ((j:Int)+1)=((j+1:Nat):Int):=by rw[BZ];omega
   have ej:IntKind.i64.wrap ((p:Int)+1)=((p+1:Nat):Int):=by rw[BZ];omega
   have d1:(p:Int)<(n:Int):=by omega
   have B:Aside (wr.heap[g]?=some (.cells r 50 (0,0))/\r.size=cur.size/\eh w g n 5 50 cur.size del flat p j wr/\(flat.drop (j*5)).take 5=[c0,c1,c2,c3,c4]/\W5.heap[wr.heap.size]?=some (.cells #[c0,c1,c2,c3,c4] 50 (0,0))/\gn wr.heap.size (wr.alloc (.cells #[Value.int IntKind.i64 0,Value.int IntKind.i64 0,Value.int IntKind.i64 0,Value.bool false,Value.int IntKind.i64 0] 50)) W5/\W5.heap.size=wr.heap.size+1/\(∀ k,k<wr.heap.size->W5.heap[k]?=wr.heap[k]?)/\w.heap.size<=wr.heap.size/\(j+1)*5<=n*5/\(p+1)*5<=j*5/\n*5<=cur.size/\g<w.heap.size):=⟨X,a5,hR,y,kB,sB,szB,oB,Z,b3,a3,I,Y⟩;clear H a9 J hφ a1 a4 hg M a2 I Y b0 ad hi X a5 b9 bl Z b3 a3 hc y c5 kB sB szB oB k0 k1 k2 k3 k4 s0 s1 s2 s3 s4 cc bx c6 cu bn;cases b4:del j with
   |true =>
    rw[b4]at cφ;have D:Aside (del j=true/\eh w g n 5 50 cur.size del flat p j wr):=⟨b4,hR⟩;clear b4 hR
    go_wp2
    refine cφ.mono ?_;rintro e W' ⟨rfl,O⟩
    go_wp2
    go_roundg (gk-1)
    case measure=>omega
    case rel =>
     obtain⟨X,a5,_,y,kB,sB,szB,oB,Z,b3,a3,I,Y⟩:=B.out;exact⟨p,j+1,by first|rfl|simp,by first|rfl|simp,by omega,by omega,D.out.2.skip D.out.1 (O.os.trans sB.os) (O.tape.trans sB.tape) (O.output.trans sB.output) (by have:=O.size;omega) (λk hk=>(O.block k (by omega)).trans (oB k hk)) Y⟩
   |false =>
    rw[b4]at cφ;have D:Aside (del j=false/\eh w g n 5 50 cur.size del flat p j wr):=⟨b4,hR⟩;clear b4 hR
    go_wp2
    refine cφ.mono ?_;rintro e W' ⟨rfl,O⟩;obtain⟨X,a5,hR,y,kB,sB,szB,oB,Z,b3,a3,I,Y⟩:=B.out;have kC:W'.heap[wr.heap.size]?=some (.cells #[c0,c1,c2,c3,c4] 50 (0,0)):=(O.block _ (by omega)).trans kB;have rC:W'.heap[g]?=some (.cells r 50 (0,0)):=(O.block _ (by omega)).trans ((oB g (by omega)).trans X);have m0:W'.cell? ⟨wr.heap.size,0,none⟩=some c0:=by rw[cell_of_row _ _ _ _ _ _ kC];rfl
    have m1:W'.cell? ⟨wr.heap.size,1,none⟩=some c1:=by rw[cell_of_row _ _ _ _ _ _ kC];rfl
    have m2:W'.cell? ⟨wr.heap.size,2,none⟩=some c2:=by rw[cell_of_row _ _ _ _ _ _ kC];rfl
    have m3:W'.cell? ⟨wr.heap.size,3,none⟩=some c3:=by rw[cell_of_row _ _ _ _ _ _ kC];rfl
    have m4:W'.cell? ⟨wr.heap.size,4,none⟩=some c4:=by rw[cell_of_row _ _ _ _ _ _ kC];rfl
    obtain⟨V1,f0,q0,r0⟩:=b6 (P:=Tryz.prog) W' g (p*5) _ 50 c0 rC (by (try simp only[BV]);omega) o0;obtain⟨V2,f1,q1,r1⟩:=b6 (P:=Tryz.prog) V1 g (p*5+1) _ 50 c1 q0 (by (try simp only[BV]);omega) o1;obtain⟨V3,f2,q2,r2⟩:=b6 (P:=Tryz.prog) V2 g (p*5+2) _ 50 c2 q1 (by (try simp only[BV]);omega) o2;obtain⟨V4,f3,q3,r3⟩:=b6 (P:=Tryz.prog) V3 g (p*5+3) _ 50 c3 q2 (by (try simp only[BV]);omega) o3;obtain⟨V5,f4,q4,r4⟩:=b6 (P:=Tryz.prog) V4 g (p*5+4) _ 50 c4 q3 (by (try simp only[BV]);omega) o4;have qV:V5.heap[g]?=some (.cells (gp r (p*5) [c0,c1,c2,c3,c4]) 50 (0,0)):=q4;have sV:gn g W' V5:=((((r0.trans r1).trans r2).trans r3).trans r4);have E2:Aside (V5.heap[g]?=some (.cells (gp r (p*5) [c0,c1,c2,c3,c4]) 50 (0,0))/\gn g W' V5/\Below W5.heap.size W5 W'):=⟨qV,sV,O⟩;clear qV sV O X a5 hR y kB sB szB oB Z b3 a3 I Y kC rC q0 q1 q2 q3 q4 r0 r1 r2 r3 r4 cφ
    go_wp2
    go_roundg (gk-1)
    case measure=>omega
    case rel =>
     obtain⟨X,a5,_,y,kB,sB,szB,oB,Z,b3,a3,I,Y⟩:=B.out;obtain⟨qV,sV,O⟩:=E2.out;have en:=O.size;have ez:=sV.size;exact⟨p+1,j+1,by first|rfl|simp,by first|rfl|simp,by omega,by omega,D.out.2.keep X D.out.1 (sV.os.trans (O.os.trans sB.os)) (sV.tape.trans (O.tape.trans sB.tape)) (sV.output.trans (O.output.trans sB.output)) (by omega)
      (λk hk hn=>(sV.other k hn).trans ((O.block k (by omega)).trans (oB k hk))) hj I qV rfl y⟩
  ·have cp:j=n:=by omega
   subst cp;have cy:¬ ((j:Int)<(j:Int)):=by omega
   have e7:(0:Int)<=(p:Int):=by omega
   have d1:¬ (R=p):=by omega
   have em:p<=j:=by omega
   have ey:p<=R:=by omega
   obtain⟨a6,e5,b5,b1⟩:=mQ (P:=Tryz.prog) wr 24 50 ba z Tryz.underlying24 hi b0 g (p*5) (j-p) (R-p) r 50 X (by omega) (by rw[ad];simp only[CE,B4,B5];rw[<- Nat.add_mul];have:(p+(j-p))*5<=R*5:=BW _ (by omega);omega) (by rw[ad];simp[CL]);have B:Aside (wr.heap[g]?=some (.cells r 50 (0,0))/\r.size=cur.size/\eh w g j 5 50 cur.size del flat p j wr/\r.toList.take (p*5)=fA 5 del flat j/\a6.size=r.size/\a6.toList.take (p*5)=r.toList.take (p*5)/\R<=maxLen/\R*5<=cur.size/\flat.length=j*5):=⟨X,a5,hR,b9,b5,b1,a2,a4,a9⟩;clear H a9 J hφ a1 a4 hg M a2 I Y b0 ad hi X a5 b9 bl Z hR b5 b1
   go_wp2
   go_ret
   obtain⟨X,a5,hR,b9,b5,b1,a2,a4,a9⟩:=B.out;have cw:=pF (s:=5) (del:=del) (flat:=flat) (j:=j) (by omega);have bb:=hR.cnt;refine⟨.slice (some ⟨g,0,none⟩) p R,rfl,⟨cw,.inr ⟨g,R,a6,_,by rw[bb],setRow_heap wr g r a6 50 (0,0) X,by omega,.inl ⟨rfl,a2⟩,by omega,by rw[<- bb,b1,b9]⟩⟩,⟨hR.os,hR.tape,hR.output,by simpa using hR.size,λk hk hn=>(setRow_other wr g k a6 (λh=>hn (by rw[h]))).trans (hR.other k hk (λh=>hn (by rw[h])))⟩,rfl⟩
set_option maxHeartbeats 4000000 in
theorem del_none (w:World)(H I:Value)(u:Calls Tryz.prog 166 #[H,I] w λe y=>e=.returned (.int .i64 (-1))/\Below w.heap.size w y) :
  Calls Tryz.prog 245 #[H,I] w λe y=>e=.returned H/\Below w.heap.size w y:=by
 have mixed:Tryz.prog.follows .mixedOrders=true:=by kernel_rfl
 have J:∀ r w,(callFunc 166 r).run Tryz.prog w=.ok (.enter 166 r) w:=λr w=>dn Tryz.func166 (by kernel_rfl) rfl r w
 go_enter Tryz.func245,Tryz.ntmps245
 go_wp2_with (go_at_fn 166;refine u.mono ?_;rintro e W ⟨rfl,z⟩)
 go_ret
 exact⟨rfl,z⟩
theorem walk:re Tryz.prog 245 166 50 5 where
 none_:=λw v0 fv n r _ h=>del_none w v0 fv h
 some_:=λw g n a3 r fi I a1 p0 J h1 ef hp hd hk hφ y=>by
  have q1:(Tryz.prog.info? 50).isSome=true:=by kernel_rfl
  have q2:((Tryz.prog.info? 50).bind λi=>i.zero).map (λz=>z.cells)=some #[Value.int IntKind.i64 0,Value.int IntKind.i64 0,Value.int IntKind.i64 0,Value.bool false,Value.int IntKind.i64 0]:=by kernel_rfl
  obtain⟨Z,hi⟩:=B7.1 q1;rw[hi]at q2;simp only[CH,B9]at q2;obtain⟨z,hz,a2⟩:=q2;obtain⟨a0,⟨M,_⟩|⟨g',a4,O,mk,M,hg,Y,R,X,u⟩⟩:=J
  ·cases M
  ·simp only[CF,CG,CM,and_true,true_and]at M;obtain⟨rfl,rfl⟩:=M;obtain⟨rfl,H⟩:=R.elim id (λh=>absurd h.1 (by decide));exact del_walk w g n a3 O r Z z hi hz a2 hg H X u a0 h1 Y fi I ef a1 p0 hp hd hk hφ y
end Q10
end Go.Proofs.YtadlacffdemoiaaGreatEv
