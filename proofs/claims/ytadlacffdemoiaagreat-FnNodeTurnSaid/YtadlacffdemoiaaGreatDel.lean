/- slices.DeleteFunc, walked. Printed by delete.py. -/
import Derived.Test.YtadlacffdemoiaaGreatProg
import Derived.Test.YtadlacffdemoiaaGreatEvS
import Derived.Test.YtadlacffdemoiaaGreatE6
import Derived.Shelf.Spec.SlicesInsert
import Derived.Deep.LoopGhost
set_option linter.unusedVariables false
set_option maxRecDepth 100000
set_option linter.unusedVariables false
set_option linter.unusedSimpArgs false
open Array renaming size_setIfInBounds->BQ,getElem?_eq_getElem->BT,getElem?_eq_some_iff->BY,getElem?_toList->B5
open Go.Addr.mk renaming injEq->CH
open Go.IntKind renaming wrap_i64->BU
open Go.Value renaming oneCell'->CG
open Go.Value.slice renaming injEq->CA
open List renaming mem_of_getElem?->BS,getElem?_take->BV,length_cons->BW,length_nil->BX,getElem?_eq_none->B6,getElem?_drop->B7,ext_getElem?->B8,size_toArray->B9,append_nil->CD,take_take->CF
open Nat renaming mul_le_mul_right->BR,add_zero->B3,min_eq_left->CE
open Option renaming isSome_iff_exists->BZ,map_eq_some_iff->B4,bind_some->CC
open Option.some renaming injEq->CB
namespace Go.Proofs.YtadlacffdemoiaaGreatEv
open Go Go.Proofs Go.Shelf Go.RowKit Go.Lib
namespace Q5
set_option maxHeartbeats 4000000 in
theorem del_walk (w:World)(g n R:Nat)(cur:Array Value)(flat:List Value)(b5:TypeInfo)(z:Value)(hi:Tryz.prog.info? 83=some b5)(b0:b5.zero=some z)(a9:z.cells=#[Value.int IntKind.i64 0,Value.int IntKind.i64 0,Value.int IntKind.i64 0,Value.slice none 0 0])
  (hg:w.heap[g]?=some (.cells cur 83 (0,0))) (a1:R<=maxLen) (a4:R*4<=cur.size) (M:cur.toList.take (n*4)=flat) (a6:flat.length=n*4) (a2:∀ u∈flat,u.oneCell'=true) (d1:n<=R)
  (fi:Nat) (caps:Array Value) (ef:fW Tryz.prog fi) (del:Nat->Bool) (p0:Nat) (cx:p0<n) (J:del p0=true) (H:∀ j,j<p0->del j=false)
  (hφ:(∀ w1:World,w.heap.size<=w1.heap.size->(∀ k,k<w.heap.size->k≠g->w1.heap[k]?=w.heap[k]?)->∀ j,j<n->Calls Tryz.prog fi (#[.agg ((flat.drop (j*4)).take 4).toArray]++caps) w1 (λe w2=>e=.returned (.bool (del j))/\Below w1.heap.size w1 w2)))
  (c4:Calls Tryz.prog 72 #[.slice (some ⟨g,0,none⟩) n R,.func (.func fi) #[] caps] w λe w'=>e=.returned (.int .i64 p0)/\Below w.heap.size w w') :
  Calls Tryz.prog 198 #[.slice (some ⟨g,0,none⟩) n R,.func (.func fi) #[] caps] w λe w'=>∃ v',e=.returned v'/\Row w' 83 4 v' (dE del n) (fE 4 del flat n)/\w.grownBy w' (some g)/\v'.ownBlock=some g:=by
 have d2:R<=9223372036854775807:=by simp only[maxLen]at a1;omega
 have hz:¬ ((p0:Int)=-1):=by omega
 have mixed:Tryz.prog.follows .mixedOrders=true:=by kernel_rfl
 have et:IntKind.i64.wrap ((p0:Int)+1)=((p0+1:Nat):Int):=by rw[BU];omega
 have eI:∀ Z w,(callFunc 72 Z).run Tryz.prog w=.ok (.enter 72 Z) w:=λZ w=>dr Tryz.func72 (by kernel_rfl) rfl Z w
 have es:∀ Z w,(callFunc fi Z).run Tryz.prog w=.ok (.enter fi Z) w:=ef;have Y:g<w.heap.size:=(BY.1 hg).1;have I:n*4<=cur.size:=Nat.le_trans (BR _ d1) a4;have A:Aside ((∀ j,j<p0->del j=false)/\flat.length=n*4/\cur.toList.take (n*4)=flat/\(∀ w1:World,w.heap.size<=w1.heap.size->(∀ k,k<w.heap.size->k≠g->w1.heap[k]?=w.heap[k]?)->∀ j,j<n->Calls Tryz.prog fi (#[.agg ((flat.drop (j*4)).take 4).toArray]++caps) w1 (λe w2=>e=.returned (.bool (del j))/\Below w1.heap.size w1 w2))/\(∀ u∈flat,u.oneCell'=true)/\R*4<=cur.size/\w.heap[g]?=some (.cells cur 83 (0,0))/\del p0=true/\R<=maxLen/\n*4<=cur.size/\g<w.heap.size/\b5.zero=some z/\z.cells=#[Value.int IntKind.i64 0,Value.int IntKind.i64 0,Value.int IntKind.i64 0,Value.slice none 0 0]/\Tryz.prog.info? 83=some b5):=⟨H,a6,M,hφ,a2,a4,hg,J,a1,I,Y,b0,a9,hi⟩;clear H a6 M hφ a2 a4 hg J a1 I Y b0 a9 hi
 go_enter Tryz.func198,Tryz.ntmps198
 go_wp2_with (go_at_fn 72;refine c4.mono ?_;rintro e W ⟨rfl,b3⟩)
 go_loopg [5,6] n (λk s5 s6 wx=>∃ p j:Nat,s5=.int .i64 p/\s6=.int .i64 j/\j<=n/\n<=j+k/\eh w g n 4 83 cur.size del flat p j wx)
 case atStart =>
  obtain⟨H,a6,M,hφ,a2,a4,hg,J,a1,I,Y,b0,a9,hi⟩:=A.out;have d3:(p0+1)*4<=n*4:=BR _ cx;have hk:=pE (s:=4) (flat:=flat) H (by omega);refine⟨p0,p0+1,rfl,by first|rfl|simp,by omega,by omega,b3.os,b3.tape,b3.output,b3.size,λk hk _=>b3.block k hk,⟨cur,(b3.block g Y).trans hg,rfl,?_,λt _ ht=>?_⟩,?_,by omega⟩
  ·simp only[fE,J,if_true,CD];rw[hk.1,<- M,CF,CE (by omega)]
  ·rw[<- M,BV,if_pos ht,B5]
  ·simp only[dE,J,if_true,B3,hk.2]
 case round =>
  obtain⟨p,j,rfl,rfl,eg,e7,hR⟩:=hrel;obtain⟨H,a6,M,hφ,a2,a4,hg,J,a1,I,Y,b0,a9,hi⟩:=A.out;obtain⟨r,X,a5,b9,bb⟩:=hR.row;have cw:=hR.lt;have a0:=hR.size;by_cases hj:j<n
  ·have cy:(j:Int)<(n:Int):=by omega
   have b4:(j+1)*4<=n*4:=BR _ hj;have a3:(p+1)*4<=j*4:=BR _ cw;have hc:∀ t,t<4->∃ u,wr.cell? ⟨g,j*4+t,none⟩=some u/\flat[j*4+t]?=some u:=λt ht =>
    ⟨r[j*4+t]'(by omega),by rw[cell_of_row wr g _ r 83 (0,0) X];exact BT (by omega),by rw[<- bb _ (by omega) (by omega)];exact BT (by omega)⟩
   obtain⟨c0,cp,cb⟩:=hc 0 (by omega);obtain⟨c1,e4,c5⟩:=hc 1 (by omega);obtain⟨c2,e5,c6⟩:=hc 2 (by omega);obtain⟨c3,eb,bl⟩:=hc 3 (by omega);rw[B3]at cp;have o0:=a2 c0 (BS cb);have o1:=a2 c1 (BS c5);have o2:=a2 c2 (BS c6);have o3:=a2 c3 (BS bl);have y:(flat.drop (j*4)).take 4=[c0,c1,c2,c3]:=by
    refine B8 λi=>?_
    rw[BV];split
    ·rename_i hi;rw[B7];rcases i with _|(_|(_|(_|_)));all_goals first|assumption|omega
    ·rename_i hi;exact (B6 (by simp only[BW,BX];omega)).symm
   have bn:(wr.alloc (.cells #[Value.int IntKind.i64 0,Value.int IntKind.i64 0,Value.int IntKind.i64 0,Value.slice none 0 0] 83)).heap[wr.heap.size]?=some (.cells #[Value.int IntKind.i64 0,Value.int IntKind.i64 0,Value.int IntKind.i64 0,Value.slice none 0 0] 83 (0,0)):=heap_alloc_new wr _;obtain⟨W1,e0,k0,s0⟩:=b7 (P:=Tryz.prog) (wr.alloc (.cells #[Value.int IntKind.i64 0,Value.int IntKind.i64 0,Value.int IntKind.i64 0,Value.slice none 0 0] 83)) wr.heap.size 0 _ 83 c0 bn (by simp) o0;obtain⟨W2,e1,k1,s1⟩:=b7 (P:=Tryz.prog) W1 wr.heap.size 1 _ 83 c1 k0 (by simp) o1;obtain⟨W3,e2,k2,s2⟩:=b7 (P:=Tryz.prog) W2 wr.heap.size 2 _ 83 c2 k1 (by simp) o2;obtain⟨W4,e3,k3,s3⟩:=b7 (P:=Tryz.prog) W3 wr.heap.size 3 _ 83 c3 k2 (by simp) o3;have kB:W4.heap[wr.heap.size]?=some (.cells #[c0,c1,c2,c3] 83 (0,0)):=k3;have sB:gl wr.heap.size (wr.alloc (.cells #[Value.int IntKind.i64 0,Value.int IntKind.i64 0,Value.int IntKind.i64 0,Value.slice none 0 0] 83)) W4:=(((s0.trans s1).trans s2).trans s3);have szB:W4.heap.size=wr.heap.size+1:=by rw[sB.size];simp
   have oB:∀ k,k<wr.heap.size->W4.heap[k]?=wr.heap[k]?:=λk hk=>(sB.other k (by omega)).trans (Go.heap_alloc_old wr _ hk)
   have l0:W4.cell? ⟨wr.heap.size,0,none⟩=some c0:=by rw[cell_of_row _ _ _ _ _ _ kB];rfl
   have l1:W4.cell? ⟨wr.heap.size,1,none⟩=some c1:=by rw[cell_of_row _ _ _ _ _ _ kB];rfl
   have l2:W4.cell? ⟨wr.heap.size,2,none⟩=some c2:=by rw[cell_of_row _ _ _ _ _ _ kB];rfl
   have l3:W4.cell? ⟨wr.heap.size,3,none⟩=some c3:=by rw[cell_of_row _ _ _ _ _ _ kB];rfl
   have cφ:=hφ W4 (by omega) (λk hk hn=>(oB k (by omega)).trans (hR.other k hk hn)) j hj;rw[y]at cφ;have e6:IntKind.i64.wrap ((j:Int)+1)=((j+1:Nat):Int):=by rw[BU];omega
   have em:IntKind.i64.wrap ((p:Int)+1)=((p+1:Nat):Int):=by rw[BU];omega
   have cu:(p:Int)<(n:Int):=by omega
   have B:Aside (wr.heap[g]?=some (.cells r 83 (0,0))/\r.size=cur.size/\eh w g n 4 83 cur.size del flat p j wr/\(flat.drop (j*4)).take 4=[c0,c1,c2,c3]/\W4.heap[wr.heap.size]?=some (.cells #[c0,c1,c2,c3] 83 (0,0))/\gl wr.heap.size (wr.alloc (.cells #[Value.int IntKind.i64 0,Value.int IntKind.i64 0,Value.int IntKind.i64 0,Value.slice none 0 0] 83)) W4/\W4.heap.size=wr.heap.size+1/\(∀ k,k<wr.heap.size->W4.heap[k]?=wr.heap[k]?)/\w.heap.size<=wr.heap.size/\(j+1)*4<=n*4/\(p+1)*4<=j*4/\n*4<=cur.size/\g<w.heap.size):=⟨X,a5,hR,y,kB,sB,szB,oB,a0,b4,a3,I,Y⟩;clear H a6 M hφ a2 a4 hg J a1 I Y b0 a9 hi X a5 b9 bb a0 b4 a3 hc y bn kB sB szB oB k0 k1 k2 k3 s0 s1 s2 s3 cb c5 c6 bl;cases b2:del j with
   |true =>
    rw[b2]at cφ;have D:Aside (del j=true/\eh w g n 4 83 cur.size del flat p j wr):=⟨b2,hR⟩;clear b2 hR
    go_wp2
    refine cφ.mono ?_;rintro e W' ⟨rfl,O⟩
    go_wp2
    go_roundg (gk-1)
    case measure=>omega
    case rel =>
     obtain⟨X,a5,_,y,kB,sB,szB,oB,a0,b4,a3,I,Y⟩:=B.out;exact⟨p,j+1,by first|rfl|simp,by first|rfl|simp,by omega,by omega,D.out.2.skip D.out.1 (O.os.trans sB.os) (O.tape.trans sB.tape) (O.output.trans sB.output) (by have:=O.size;omega) (λk hk=>(O.block k (by omega)).trans (oB k hk)) Y⟩
   |false =>
    rw[b2]at cφ;have D:Aside (del j=false/\eh w g n 4 83 cur.size del flat p j wr):=⟨b2,hR⟩;clear b2 hR
    go_wp2
    refine cφ.mono ?_;rintro e W' ⟨rfl,O⟩;obtain⟨X,a5,hR,y,kB,sB,szB,oB,a0,b4,a3,I,Y⟩:=B.out;have kC:W'.heap[wr.heap.size]?=some (.cells #[c0,c1,c2,c3] 83 (0,0)):=(O.block _ (by omega)).trans kB;have rC:W'.heap[g]?=some (.cells r 83 (0,0)):=(O.block _ (by omega)).trans ((oB g (by omega)).trans X);have m0:W'.cell? ⟨wr.heap.size,0,none⟩=some c0:=by rw[cell_of_row _ _ _ _ _ _ kC];rfl
    have m1:W'.cell? ⟨wr.heap.size,1,none⟩=some c1:=by rw[cell_of_row _ _ _ _ _ _ kC];rfl
    have m2:W'.cell? ⟨wr.heap.size,2,none⟩=some c2:=by rw[cell_of_row _ _ _ _ _ _ kC];rfl
    have m3:W'.cell? ⟨wr.heap.size,3,none⟩=some c3:=by rw[cell_of_row _ _ _ _ _ _ kC];rfl
    obtain⟨V1,f0,q0,r0⟩:=b7 (P:=Tryz.prog) W' g (p*4) _ 83 c0 rC (by (try simp only[BQ]);omega) o0;obtain⟨V2,f1,q1,r1⟩:=b7 (P:=Tryz.prog) V1 g (p*4+1) _ 83 c1 q0 (by (try simp only[BQ]);omega) o1;obtain⟨V3,f2,q2,r2⟩:=b7 (P:=Tryz.prog) V2 g (p*4+2) _ 83 c2 q1 (by (try simp only[BQ]);omega) o2;obtain⟨V4,f3,q3,r3⟩:=b7 (P:=Tryz.prog) V3 g (p*4+3) _ 83 c3 q2 (by (try simp only[BQ]);omega) o3;have qV:V4.heap[g]?=some (.cells (gm r (p*4) [c0,c1,c2,c3]) 83 (0,0)):=q3;have sV:gl g W' V4:=(((r0.trans r1).trans r2).trans r3);have E2:Aside (V4.heap[g]?=some (.cells (gm r (p*4) [c0,c1,c2,c3]) 83 (0,0))/\gl g W' V4/\Below W4.heap.size W4 W'):=⟨qV,sV,O⟩;clear qV sV O X a5 hR y kB sB szB oB a0 b4 a3 I Y kC rC q0 q1 q2 q3 r0 r1 r2 r3 cφ
    go_wp2
    go_roundg (gk-1)
    case measure=>omega
    case rel =>
     obtain⟨X,a5,_,y,kB,sB,szB,oB,a0,b4,a3,I,Y⟩:=B.out;obtain⟨qV,sV,O⟩:=E2.out;have ej:=O.size;have en:=sV.size;exact⟨p+1,j+1,by first|rfl|simp,by first|rfl|simp,by omega,by omega,D.out.2.keep X D.out.1 (sV.os.trans (O.os.trans sB.os)) (sV.tape.trans (O.tape.trans sB.tape)) (sV.output.trans (O.output.trans sB.output)) (by omega)
      (λk hk hn=>(sV.other k hn).trans ((O.block k (by omega)).trans (oB k hk))) hj I qV rfl y⟩
  ·have cc:j=n:=by omega
   subst cc;have cy:¬ ((j:Int)<(j:Int)):=by omega
   have dd:(0:Int)<=(p:Int):=by omega
   have cu:¬ (R=p):=by omega
   have ec:p<=j:=by omega
   have ed:p<=R:=by omega
   obtain⟨ad,dc,b6,b1⟩:=mN (P:=Tryz.prog) wr 27 83 b5 z Tryz.underlying27 hi b0 g (p*4) (j-p) (R-p) r 83 X (by omega) (by rw[a9];simp only[B9,BW,BX];rw[<- Nat.add_mul];have:(p+(j-p))*4<=R*4:=BR _ (by omega);omega) (by rw[a9];simp[CG]);have B:Aside (wr.heap[g]?=some (.cells r 83 (0,0))/\r.size=cur.size/\eh w g j 4 83 cur.size del flat p j wr/\r.toList.take (p*4)=fE 4 del flat j/\ad.size=r.size/\ad.toList.take (p*4)=r.toList.take (p*4)/\R<=maxLen/\R*4<=cur.size/\flat.length=j*4):=⟨X,a5,hR,b9,b6,b1,a1,a4,a6⟩;clear H a6 M hφ a2 a4 hg J a1 I Y b0 a9 hi X a5 b9 bb a0 hR b6 b1
   go_wp2
   go_ret
   obtain⟨X,a5,hR,b9,b6,b1,a1,a4,a6⟩:=B.out;have bx:=pF (s:=4) (del:=del) (flat:=flat) (j:=j) (by omega);have ba:=hR.cnt;refine⟨.slice (some ⟨g,0,none⟩) p R,rfl,⟨bx,.inr ⟨g,R,ad,_,by rw[ba],setRow_heap wr g r ad 83 (0,0) X,by omega,.inl ⟨rfl,a1⟩,by omega,by rw[<- ba,b1,b9]⟩⟩,⟨hR.os,hR.tape,hR.output,by simpa using hR.size,λk hk hn=>(setRow_other wr g k ad (λh=>hn (by rw[h]))).trans (hR.other k hk (λh=>hn (by rw[h])))⟩,rfl⟩
set_option maxHeartbeats 4000000 in
theorem del_none (w:World)(H I:Value)(u:Calls Tryz.prog 72 #[H,I] w λe y=>e=.returned (.int .i64 (-1))/\Below w.heap.size w y) :
  Calls Tryz.prog 198 #[H,I] w λe y=>e=.returned H/\Below w.heap.size w y:=by
 have mixed:Tryz.prog.follows .mixedOrders=true:=by kernel_rfl
 have J:∀ r w,(callFunc 72 r).run Tryz.prog w=.ok (.enter 72 r) w:=λr w=>dr Tryz.func72 (by kernel_rfl) rfl r w
 go_enter Tryz.func198,Tryz.ntmps198
 go_wp2_with (go_at_fn 72;refine u.mono ?_;rintro e W ⟨rfl,z⟩)
 go_ret
 exact⟨rfl,z⟩
theorem walk:ri Tryz.prog 198 72 83 4 where
 none_:=λw v0 fv n r _ h=>del_none w v0 fv h
 some_:=λw g n X r fi J Y p0 H h1 ef hp hd hk hφ I=>by
  have q1:(Tryz.prog.info? 83).isSome=true:=by kernel_rfl
  have q2:((Tryz.prog.info? 83).bind λi=>i.zero).map (λz=>z.cells)=some #[Value.int IntKind.i64 0,Value.int IntKind.i64 0,Value.int IntKind.i64 0,Value.slice none 0 0]:=by kernel_rfl
  obtain⟨O,hi⟩:=BZ.1 q1;rw[hi]at q2;simp only[CC,B4]at q2;obtain⟨z,hz,a1⟩:=q2;obtain⟨Z,⟨M,_⟩|⟨g',a4,a0,mk,M,hg,a2,a3,R,u⟩⟩:=H
  ·cases M
  ·simp only[CA,CB,CH,and_true,true_and]at M;obtain⟨rfl,rfl⟩:=M;obtain⟨rfl,y⟩:=a3.elim id (λh=>absurd h.1 (by decide));exact del_walk w g n X a0 r O z hi hz a1 hg y R u Z h1 a2 fi J ef Y p0 hp hd hk hφ I
end Q5
namespace Q10
set_option maxHeartbeats 4000000 in
theorem del_walk (w:World)(g n R:Nat)(cur:Array Value)(flat:List Value)(b5:TypeInfo)(z:Value)(hi:Tryz.prog.info? 50=some b5)(b0:b5.zero=some z)(a9:z.cells=#[Value.int IntKind.i64 0,Value.int IntKind.i64 0,Value.int IntKind.i64 0,Value.bool false,Value.int IntKind.i64 0])
  (hg:w.heap[g]?=some (.cells cur 50 (0,0))) (a2:R<=maxLen) (a4:R*5<=cur.size) (M:cur.toList.take (n*5)=flat) (a6:flat.length=n*5) (a1:∀ u∈flat,u.oneCell'=true) (d3:n<=R)
  (fi:Nat) (caps:Array Value) (ef:fW Tryz.prog fi) (del:Nat->Bool) (p0:Nat) (d1:p0<n) (J:del p0=true) (H:∀ j,j<p0->del j=false)
  (hφ:(∀ w1:World,w.heap.size<=w1.heap.size->(∀ k,k<w.heap.size->k≠g->w1.heap[k]?=w.heap[k]?)->∀ j,j<n->Calls Tryz.prog fi (#[.agg ((flat.drop (j*5)).take 5).toArray]++caps) w1 (λe w2=>e=.returned (.bool (del j))/\Below w1.heap.size w1 w2)))
  (c6:Calls Tryz.prog 166 #[.slice (some ⟨g,0,none⟩) n R,.func (.func fi) #[] caps] w λe w'=>e=.returned (.int .i64 p0)/\Below w.heap.size w w') :
  Calls Tryz.prog 245 #[.slice (some ⟨g,0,none⟩) n R,.func (.func fi) #[] caps] w λe w'=>∃ v',e=.returned v'/\Row w' 50 5 v' (dE del n) (fE 5 del flat n)/\w.grownBy w' (some g)/\v'.ownBlock=some g:=by
 have dc:R<=9223372036854775807:=by simp only[maxLen]at a2;omega
 have hz:¬ ((p0:Int)=-1):=by omega
 have mixed:Tryz.prog.follows .mixedOrders=true:=by kernel_rfl
 have f5:IntKind.i64.wrap ((p0:Int)+1)=((p0+1:Nat):Int):=by rw[BU];omega
 have eI:∀ Z w,(callFunc 166 Z).run Tryz.prog w=.ok (.enter 166 Z) w:=λZ w=>dr Tryz.func166 (by kernel_rfl) rfl Z w
 have ey:∀ Z w,(callFunc fi Z).run Tryz.prog w=.ok (.enter fi Z) w:=ef;have Y:g<w.heap.size:=(BY.1 hg).1;have I:n*5<=cur.size:=Nat.le_trans (BR _ d3) a4;have A:Aside ((∀ j,j<p0->del j=false)/\flat.length=n*5/\cur.toList.take (n*5)=flat/\(∀ w1:World,w.heap.size<=w1.heap.size->(∀ k,k<w.heap.size->k≠g->w1.heap[k]?=w.heap[k]?)->∀ j,j<n->Calls Tryz.prog fi (#[.agg ((flat.drop (j*5)).take 5).toArray]++caps) w1 (λe w2=>e=.returned (.bool (del j))/\Below w1.heap.size w1 w2))/\(∀ u∈flat,u.oneCell'=true)/\R*5<=cur.size/\w.heap[g]?=some (.cells cur 50 (0,0))/\del p0=true/\R<=maxLen/\n*5<=cur.size/\g<w.heap.size/\b5.zero=some z/\z.cells=#[Value.int IntKind.i64 0,Value.int IntKind.i64 0,Value.int IntKind.i64 0,Value.bool false,Value.int IntKind.i64 0]/\Tryz.prog.info? 50=some b5):=⟨H,a6,M,hφ,a1,a4,hg,J,a2,I,Y,b0,a9,hi⟩;clear H a6 M hφ a1 a4 hg J a2 I Y b0 a9 hi
 go_enter Tryz.func245,Tryz.ntmps245
 go_wp2_with (go_at_fn 166;refine c6.mono ?_;rintro e W ⟨rfl,b3⟩)
 go_loopg [5,6] n (λk s5 s6 wx=>∃ p j:Nat,s5=.int .i64 p/\s6=.int .i64 j/\j<=n/\n<=j+k/\eh w g n 5 50 cur.size del flat p j wx)
 case atStart =>
  obtain⟨H,a6,M,hφ,a1,a4,hg,J,a2,I,Y,b0,a9,hi⟩:=A.out;have dd:(p0+1)*5<=n*5:=BR _ d1;have hk:=pE (s:=5) (flat:=flat) H (by omega);refine⟨p0,p0+1,rfl,by first|rfl|simp,by omega,by omega,b3.os,b3.tape,b3.output,b3.size,λk hk _=>b3.block k hk,⟨cur,(b3.block g Y).trans hg,rfl,?_,λt _ ht=>?_⟩,?_,by omega⟩
  ·simp only[fE,J,if_true,CD];rw[hk.1,<- M,CF,CE (by omega)]
  ·rw[<- M,BV,if_pos ht,B5]
  ·simp only[dE,J,if_true,B3,hk.2]
 case round =>
  obtain⟨p,j,rfl,rfl,es,eg,hR⟩:=hrel;obtain⟨H,a6,M,hφ,a1,a4,hg,J,a2,I,Y,b0,a9,hi⟩:=A.out;obtain⟨r,X,a5,b9,bb⟩:=hR.row;have cy:=hR.lt;have a0:=hR.size;by_cases hj:j<n
  ·have d2:(j:Int)<(n:Int):=by omega
   have b4:(j+1)*5<=n*5:=BR _ hj;have a3:(p+1)*5<=j*5:=BR _ cy;have hc:∀ t,t<5->∃ u,wr.cell? ⟨g,j*5+t,none⟩=some u/\flat[j*5+t]?=some u:=λt ht =>
    ⟨r[j*5+t]'(by omega),by rw[cell_of_row wr g _ r 50 (0,0) X];exact BT (by omega),by rw[<- bb _ (by omega) (by omega)];exact BT (by omega)⟩
   obtain⟨c0,cw,cp⟩:=hc 0 (by omega);obtain⟨c1,eb,cb⟩:=hc 1 (by omega);obtain⟨c2,ec,cc⟩:=hc 2 (by omega);obtain⟨c3,ej,bl⟩:=hc 3 (by omega);obtain⟨c4,e7,bx⟩:=hc 4 (by omega);rw[B3]at cw;have o0:=a1 c0 (BS cp);have o1:=a1 c1 (BS cb);have o2:=a1 c2 (BS cc);have o3:=a1 c3 (BS bl);have o4:=a1 c4 (BS bx);have y:(flat.drop (j*5)).take 5=[c0,c1,c2,c3,c4]:=by
    refine B8 λi=>?_
    rw[BV];split
    ·rename_i hi;rw[B7];rcases i with _|(_|(_|(_|(_|_))));all_goals first|assumption|omega
    ·rename_i hi;exact (B6 (by simp only[BW,BX];omega)).symm
   have bn:(wr.alloc (.cells #[Value.int IntKind.i64 0,Value.int IntKind.i64 0,Value.int IntKind.i64 0,Value.bool false,Value.int IntKind.i64 0] 50)).heap[wr.heap.size]?=some (.cells #[Value.int IntKind.i64 0,Value.int IntKind.i64 0,Value.int IntKind.i64 0,Value.bool false,Value.int IntKind.i64 0] 50 (0,0)):=heap_alloc_new wr _;obtain⟨W1,e0,k0,s0⟩:=b7 (P:=Tryz.prog) (wr.alloc (.cells #[Value.int IntKind.i64 0,Value.int IntKind.i64 0,Value.int IntKind.i64 0,Value.bool false,Value.int IntKind.i64 0] 50)) wr.heap.size 0 _ 50 c0 bn (by simp) o0;obtain⟨W2,e1,k1,s1⟩:=b7 (P:=Tryz.prog) W1 wr.heap.size 1 _ 50 c1 k0 (by simp) o1;obtain⟨W3,e2,k2,s2⟩:=b7 (P:=Tryz.prog) W2 wr.heap.size 2 _ 50 c2 k1 (by simp) o2;obtain⟨W4,e3,k3,s3⟩:=b7 (P:=Tryz.prog) W3 wr.heap.size 3 _ 50 c3 k2 (by simp) o3;obtain⟨W5,e4,k4,s4⟩:=b7 (P:=Tryz.prog) W4 wr.heap.size 4 _ 50 c4 k3 (by simp) o4;have kB:W5.heap[wr.heap.size]?=some (.cells #[c0,c1,c2,c3,c4] 50 (0,0)):=k4;have sB:gl wr.heap.size (wr.alloc (.cells #[Value.int IntKind.i64 0,Value.int IntKind.i64 0,Value.int IntKind.i64 0,Value.bool false,Value.int IntKind.i64 0] 50)) W5:=((((s0.trans s1).trans s2).trans s3).trans s4);have szB:W5.heap.size=wr.heap.size+1:=by rw[sB.size];simp
   have oB:∀ k,k<wr.heap.size->W5.heap[k]?=wr.heap[k]?:=λk hk=>(sB.other k (by omega)).trans (Go.heap_alloc_old wr _ hk)
   have l0:W5.cell? ⟨wr.heap.size,0,none⟩=some c0:=by rw[cell_of_row _ _ _ _ _ _ kB];rfl
   have l1:W5.cell? ⟨wr.heap.size,1,none⟩=some c1:=by rw[cell_of_row _ _ _ _ _ _ kB];rfl
   have l2:W5.cell? ⟨wr.heap.size,2,none⟩=some c2:=by rw[cell_of_row _ _ _ _ _ _ kB];rfl
   have l3:W5.cell? ⟨wr.heap.size,3,none⟩=some c3:=by rw[cell_of_row _ _ _ _ _ _ kB];rfl
   have l4:W5.cell? ⟨wr.heap.size,4,none⟩=some c4:=by rw[cell_of_row _ _ _ _ _ _ kB];rfl
   have cφ:=hφ W5 (by omega) (λk hk hn=>(oB k (by omega)).trans (hR.other k hk hn)) j hj;rw[y]at cφ;have ed:IntKind.i64.wrap ((j:Int)+1)=((j+1:Nat):Int):=by rw[BU];omega
   have ev:IntKind.i64.wrap ((p:Int)+1)=((p+1:Nat):Int):=by rw[BU];omega
   have cx:(p:Int)<(n:Int):=by omega
   have B:Aside (wr.heap[g]?=some (.cells r 50 (0,0))/\r.size=cur.size/\eh w g n 5 50 cur.size del flat p j wr/\(flat.drop (j*5)).take 5=[c0,c1,c2,c3,c4]/\W5.heap[wr.heap.size]?=some (.cells #[c0,c1,c2,c3,c4] 50 (0,0))/\gl wr.heap.size (wr.alloc (.cells #[Value.int IntKind.i64 0,Value.int IntKind.i64 0,Value.int IntKind.i64 0,Value.bool false,Value.int IntKind.i64 0] 50)) W5/\W5.heap.size=wr.heap.size+1/\(∀ k,k<wr.heap.size->W5.heap[k]?=wr.heap[k]?)/\w.heap.size<=wr.heap.size/\(j+1)*5<=n*5/\(p+1)*5<=j*5/\n*5<=cur.size/\g<w.heap.size):=⟨X,a5,hR,y,kB,sB,szB,oB,a0,b4,a3,I,Y⟩;clear H a6 M hφ a1 a4 hg J a2 I Y b0 a9 hi X a5 b9 bb a0 b4 a3 hc y bn kB sB szB oB k0 k1 k2 k3 k4 s0 s1 s2 s3 s4 cp cb cc bl bx;cases b2:del j with
   |true =>
    rw[b2]at cφ;have D:Aside (del j=true/\eh w g n 5 50 cur.size del flat p j wr):=⟨b2,hR⟩;clear b2 hR
    go_wp2
    refine cφ.mono ?_;rintro e W' ⟨rfl,O⟩
    go_wp2
    go_roundg (gk-1)
    case measure=>omega
    case rel =>
     obtain⟨X,a5,_,y,kB,sB,szB,oB,a0,b4,a3,I,Y⟩:=B.out;exact⟨p,j+1,by first|rfl|simp,by first|rfl|simp,by omega,by omega,D.out.2.skip D.out.1 (O.os.trans sB.os) (O.tape.trans sB.tape) (O.output.trans sB.output) (by have:=O.size;omega) (λk hk=>(O.block k (by omega)).trans (oB k hk)) Y⟩
   |false =>
    rw[b2]at cφ;have D:Aside (del j=false/\eh w g n 5 50 cur.size del flat p j wr):=⟨b2,hR⟩;clear b2 hR
    go_wp2
    refine cφ.mono ?_;rintro e W' ⟨rfl,O⟩;obtain⟨X,a5,hR,y,kB,sB,szB,oB,a0,b4,a3,I,Y⟩:=B.out;have kC:W'.heap[wr.heap.size]?=some (.cells #[c0,c1,c2,c3,c4] 50 (0,0)):=(O.block _ (by omega)).trans kB;have rC:W'.heap[g]?=some (.cells r 50 (0,0)):=(O.block _ (by omega)).trans ((oB g (by omega)).trans X);have m0:W'.cell? ⟨wr.heap.size,0,none⟩=some c0:=by rw[cell_of_row _ _ _ _ _ _ kC];rfl
    have m1:W'.cell? ⟨wr.heap.size,1,none⟩=some c1:=by rw[cell_of_row _ _ _ _ _ _ kC];rfl
    have m2:W'.cell? ⟨wr.heap.size,2,none⟩=some c2:=by rw[cell_of_row _ _ _ _ _ _ kC];rfl
    have m3:W'.cell? ⟨wr.heap.size,3,none⟩=some c3:=by rw[cell_of_row _ _ _ _ _ _ kC];rfl
    have m4:W'.cell? ⟨wr.heap.size,4,none⟩=some c4:=by rw[cell_of_row _ _ _ _ _ _ kC];rfl
    obtain⟨V1,f0,q0,r0⟩:=b7 (P:=Tryz.prog) W' g (p*5) _ 50 c0 rC (by (try simp only[BQ]);omega) o0;obtain⟨V2,f1,q1,r1⟩:=b7 (P:=Tryz.prog) V1 g (p*5+1) _ 50 c1 q0 (by (try simp only[BQ]);omega) o1;obtain⟨V3,f2,q2,r2⟩:=b7 (P:=Tryz.prog) V2 g (p*5+2) _ 50 c2 q1 (by (try simp only[BQ]);omega) o2;obtain⟨V4,f3,q3,r3⟩:=b7 (P:=Tryz.prog) V3 g (p*5+3) _ 50 c3 q2 (by (try simp only[BQ]);omega) o3;obtain⟨V5,f4,q4,r4⟩:=b7 (P:=Tryz.prog) V4 g (p*5+4) _ 50 c4 q3 (by (try simp only[BQ]);omega) o4;have qV:V5.heap[g]?=some (.cells (gm r (p*5) [c0,c1,c2,c3,c4]) 50 (0,0)):=q4;have sV:gl g W' V5:=((((r0.trans r1).trans r2).trans r3).trans r4);have E2:Aside (V5.heap[g]?=some (.cells (gm r (p*5) [c0,c1,c2,c3,c4]) 50 (0,0))/\gl g W' V5/\Below W5.heap.size W5 W'):=⟨qV,sV,O⟩;clear qV sV O X a5 hR y kB sB szB oB a0 b4 a3 I Y kC rC q0 q1 q2 q3 q4 r0 r1 r2 r3 r4 cφ
    go_wp2
    go_roundg (gk-1)
    case measure=>omega
    case rel =>
     obtain⟨X,a5,_,y,kB,sB,szB,oB,a0,b4,a3,I,Y⟩:=B.out;obtain⟨qV,sV,O⟩:=E2.out;have et:=O.size;have ex:=sV.size;exact⟨p+1,j+1,by first|rfl|simp,by first|rfl|simp,by omega,by omega,D.out.2.keep X D.out.1 (sV.os.trans (O.os.trans sB.os)) (sV.tape.trans (O.tape.trans sB.tape)) (sV.output.trans (O.output.trans sB.output)) (by omega)
      (λk hk hn=>(sV.other k hn).trans ((O.block k (by omega)).trans (oB k hk))) hj I qV rfl y⟩
  ·have cu:j=n:=by omega
   subst cu;have d2:¬ ((j:Int)<(j:Int)):=by omega
   have e6:(0:Int)<=(p:Int):=by omega
   have cx:¬ (R=p):=by omega
   have em:p<=j:=by omega
   have en:p<=R:=by omega
   obtain⟨ad,e5,b6,b1⟩:=mN (P:=Tryz.prog) wr 24 50 b5 z Tryz.underlying24 hi b0 g (p*5) (j-p) (R-p) r 50 X (by omega) (by rw[a9];simp only[B9,BW,BX];rw[<- Nat.add_mul];have:(p+(j-p))*5<=R*5:=BR _ (by omega);omega) (by rw[a9];simp[CG]);have B:Aside (wr.heap[g]?=some (.cells r 50 (0,0))/\r.size=cur.size/\eh w g j 5 50 cur.size del flat p j wr/\r.toList.take (p*5)=fE 5 del flat j/\ad.size=r.size/\ad.toList.take (p*5)=r.toList.take (p*5)/\R<=maxLen/\R*5<=cur.size/\flat.length=j*5):=⟨X,a5,hR,b9,b6,b1,a2,a4,a6⟩;clear H a6 M hφ a1 a4 hg J a2 I Y b0 a9 hi X a5 b9 bb a0 hR b6 b1
   go_wp2
   go_ret
   obtain⟨X,a5,hR,b9,b6,b1,a2,a4,a6⟩:=B.out;have c5:=pF (s:=5) (del:=del) (flat:=flat) (j:=j) (by omega);have ba:=hR.cnt;refine⟨.slice (some ⟨g,0,none⟩) p R,rfl,⟨c5,.inr ⟨g,R,ad,_,by rw[ba],setRow_heap wr g r ad 50 (0,0) X,by omega,.inl ⟨rfl,a2⟩,by omega,by rw[<- ba,b1,b9]⟩⟩,⟨hR.os,hR.tape,hR.output,by simpa using hR.size,λk hk hn=>(setRow_other wr g k ad (λh=>hn (by rw[h]))).trans (hR.other k hk (λh=>hn (by rw[h])))⟩,rfl⟩
set_option maxHeartbeats 4000000 in
theorem del_none (w:World)(H I:Value)(u:Calls Tryz.prog 166 #[H,I] w λe y=>e=.returned (.int .i64 (-1))/\Below w.heap.size w y) :
  Calls Tryz.prog 245 #[H,I] w λe y=>e=.returned H/\Below w.heap.size w y:=by
 have mixed:Tryz.prog.follows .mixedOrders=true:=by kernel_rfl
 have J:∀ r w,(callFunc 166 r).run Tryz.prog w=.ok (.enter 166 r) w:=λr w=>dr Tryz.func166 (by kernel_rfl) rfl r w
 go_enter Tryz.func245,Tryz.ntmps245
 go_wp2_with (go_at_fn 166;refine u.mono ?_;rintro e W ⟨rfl,z⟩)
 go_ret
 exact⟨rfl,z⟩
theorem walk:ri Tryz.prog 245 166 50 5 where
 none_:=λw v0 fv n r _ h=>del_none w v0 fv h
 some_:=λw g n X r fi J Y p0 H h1 ef hp hd hk hφ I=>by
  have q1:(Tryz.prog.info? 50).isSome=true:=by kernel_rfl
  have q2:((Tryz.prog.info? 50).bind λi=>i.zero).map (λz=>z.cells)=some #[Value.int IntKind.i64 0,Value.int IntKind.i64 0,Value.int IntKind.i64 0,Value.bool false,Value.int IntKind.i64 0]:=by kernel_rfl
  obtain⟨O,hi⟩:=BZ.1 q1;rw[hi]at q2;simp only[CC,B4]at q2;obtain⟨z,hz,a1⟩:=q2;obtain⟨Z,⟨M,_⟩|⟨g',a4,a0,mk,M,hg,a2,a3,R,u⟩⟩:=H
  ·cases M
  ·simp only[CA,CB,CH,and_true,true_and]at M;obtain⟨rfl,rfl⟩:=M;obtain⟨rfl,y⟩:=a3.elim id (λh=>absurd h.1 (by decide));exact del_walk w g n X a0 r O z hi hz a1 hg y R u Z h1 a2 fi J ef Y p0 hp hd hk hφ I
end Q10
end Go.Proofs.YtadlacffdemoiaaGreatEv
