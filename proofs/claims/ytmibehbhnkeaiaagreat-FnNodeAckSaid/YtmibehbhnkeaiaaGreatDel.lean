/- slices.DeleteFunc, walked. Printed by delete.py. -/
import Derived.Test.YtmibehbhnkeaiaaGreatProg
import Derived.Test.YtmibehbhnkeaiaaGreatEvS
import Derived.Test.YtmibehbhnkeaiaaGreatE6
import Derived.Shelf.Spec.SlicesInsert
import Derived.Deep.LoopGhost
set_option linter.unusedVariables false
set_option maxRecDepth 100000
set_option linter.unusedVariables false
set_option linter.unusedSimpArgs false
open Array renaming size_setIfInBounds->FJ,getElem?_eq_getElem->FM,getElem?_eq_some_iff->FR,getElem?_toList->FV
open Go.Addr.mk renaming injEq->F7
open Go.IntKind renaming wrap_i64->FN
open Go.Value renaming oneCell'->F6
open Go.Value.slice renaming injEq->F0
open List renaming mem_of_getElem?->FL,getElem?_take->FO,length_cons->FP,length_nil->FQ,getElem?_eq_none->FW,getElem?_drop->FX,ext_getElem?->FY,size_toArray->FZ,append_nil->F3,take_take->F5
open Nat renaming mul_le_mul_right->FK,add_zero->FT,min_eq_left->F4
open Option renaming isSome_iff_exists->FS,map_eq_some_iff->FU,bind_some->F2
open Option.some renaming injEq->F1
namespace Go.Proofs.YtmibehbhnkeaiaaGreatEv
open Go Go.Proofs Go.Shelf Go.RowKit Go.Lib
namespace Q4
set_option maxHeartbeats 4000000 in
theorem del_walk (w:World)(g n O:Nat)(cur:Array Value)(flat:List Value)(b2:TypeInfo)(z:Value)(hi:Tryz.prog.info? 86=some b2)(a9:b2.zero=some z)(a8:z.cells=#[Value.int IntKind.i64 0,Value.int IntKind.i64 0,Value.int IntKind.i64 0,Value.slice none 0 0])
  (hg:w.heap[g]?=some (.cells cur 86 (0,0))) (a2:O<=maxLen) (a4:O*4<=cur.size) (M:cur.toList.take (n*4)=flat) (a7:flat.length=n*4) (a1:∀ u∈flat,u.oneCell'=true) (c5:n<=O)
  (fi:Nat) (caps:Array Value) (ef:fR Tryz.prog fi) (del:Nat->Bool) (p0:Nat) (c6:p0<n) (J:del p0=true) (H:∀ j,j<p0->del j=false)
  (hφ:(∀ w1:World,w.heap.size<=w1.heap.size->(∀ k,k<w.heap.size->k≠g->w1.heap[k]?=w.heap[k]?)->∀ j,j<n->Calls Tryz.prog fi (#[.agg ((flat.drop (j*4)).take 4).toArray]++caps) w1 (λe w2=>e=.returned (.bool (del j))/\Below w1.heap.size w1 w2)))
  (bl:Calls Tryz.prog 272 #[.slice (some ⟨g,0,none⟩) n O,.func (.func fi) #[] caps] w λe w'=>e=.returned (.int .i64 p0)/\Below w.heap.size w w') :
  Calls Tryz.prog 215 #[.slice (some ⟨g,0,none⟩) n O,.func (.func fi) #[] caps] w λe w'=>∃ v',e=.returned v'/\Row w' 86 4 v' (dN del n) (kept 4 del flat n)/\w.grownBy w' (some g)/\v'.ownBlock=some g:=by
 have cu:O<=9223372036854775807:=by simp only[maxLen]at a2;omega
 have hz:¬ ((p0:Int)=-1):=by omega
 have mixed:Tryz.prog.follows .mixedOrders=true:=by kernel_rfl
 have e5:IntKind.i64.wrap ((p0:Int)+1)=((p0+1:Nat):Int):=by rw[FN];omega
 have eI:∀ Z w,(callFunc 272 Z).run Tryz.prog w=.ok (.enter 272 Z) w:=λZ w=>c7 Tryz.func272 (by kernel_rfl) rfl Z w
 have cy:∀ Z w,(callFunc fi Z).run Tryz.prog w=.ok (.enter fi Z) w:=ef;have Y:g<w.heap.size:=(FR.1 hg).1;have I:n*4<=cur.size:=Nat.le_trans (FK _ c5) a4;have A:Aside ((∀ j,j<p0->del j=false)/\flat.length=n*4/\cur.toList.take (n*4)=flat/\(∀ w1:World,w.heap.size<=w1.heap.size->(∀ k,k<w.heap.size->k≠g->w1.heap[k]?=w.heap[k]?)->∀ j,j<n->Calls Tryz.prog fi (#[.agg ((flat.drop (j*4)).take 4).toArray]++caps) w1 (λe w2=>e=.returned (.bool (del j))/\Below w1.heap.size w1 w2))/\(∀ u∈flat,u.oneCell'=true)/\O*4<=cur.size/\w.heap[g]?=some (.cells cur 86 (0,0))/\del p0=true/\O<=maxLen/\n*4<=cur.size/\g<w.heap.size/\b2.zero=some z/\z.cells=#[Value.int IntKind.i64 0,Value.int IntKind.i64 0,Value.int IntKind.i64 0,Value.slice none 0 0]/\Tryz.prog.info? 86=some b2):=⟨H,a7,M,hφ,a1,a4,hg,J,a2,I,Y,a9,a8,hi⟩;clear H a7 M hφ a1 a4 hg J a2 I Y a9 a8 hi
 go_enter Tryz.func215,Tryz.ntmps215
 go_wp2_with (go_at_fn 272;refine bl.mono ?_;rintro e W ⟨rfl,aw⟩)
 go_loopg [5,6] n (λk s5 s6 wx=>∃ p j:Nat,s5=.int .i64 p/\s6=.int .i64 j/\j<=n/\n<=j+k/\eJ w g n 4 86 cur.size del flat p j wx)
 case atStart =>
  obtain⟨H,a7,M,hφ,a1,a4,hg,J,a2,I,Y,a9,a8,hi⟩:=A.out;have cx:(p0+1)*4<=n*4:=FK _ c6;have hk:=qp (s:=4) (flat:=flat) H (by omega);refine⟨p0,p0+1,rfl,by first|rfl|simp,by omega,by omega,aw.os,aw.tape,aw.output,aw.size,λk hk _=>aw.block k hk,⟨cur,(aw.block g Y).trans hg,rfl,?_,λt _ ht=>?_⟩,?_,by omega⟩
  ·simp only[kept,J,if_true,F3];rw[hk.1,<- M,F5,F4 (by omega)]
  ·rw[<- M,FO,if_pos ht,FV]
  ·simp only[dN,J,if_true,FT,hk.2]
 case round =>
  obtain⟨p,j,rfl,rfl,d6,d5,hR⟩:=hrel;obtain⟨H,a7,M,hφ,a1,a4,hg,J,a2,I,Y,a9,a8,hi⟩:=A.out;obtain⟨r,X,a5,b1,b4⟩:=hR.row;have cb:=hR.lt;have a0:=hR.size;by_cases hj:j<n
  ·have c4:(j:Int)<(n:Int):=by omega
   have az:(j+1)*4<=n*4:=FK _ hj;have a3:(p+1)*4<=j*4:=FK _ cb;have hc:∀ t,t<4->∃ u,wr.cell? ⟨g,j*4+t,none⟩=some u/\flat[j*4+t]?=some u:=λt ht =>
    ⟨r[j*4+t]'(by omega),by rw[cell_of_row wr g _ r 86 (0,0) X];exact FM (by omega),by rw[<- b4 _ (by omega) (by omega)];exact FM (by omega)⟩
   obtain⟨c0,bx,b6⟩:=hc 0 (by omega);obtain⟨c1,d2,b9⟩:=hc 1 (by omega);obtain⟨c2,d3,ba⟩:=hc 2 (by omega);obtain⟨c3,d4,bb⟩:=hc 3 (by omega);rw[FT]at bx;have o0:=a1 c0 (FL b6);have o1:=a1 c1 (FL b9);have o2:=a1 c2 (FL ba);have o3:=a1 c3 (FL bb);have y:(flat.drop (j*4)).take 4=[c0,c1,c2,c3]:=by
    refine FY λi=>?_
    rw[FO];split
    ·rename_i hi;rw[FX];rcases i with _|(_|(_|(_|_)));all_goals first|assumption|omega
    ·rename_i hi;exact (FW (by simp only[FP,FQ];omega)).symm
   have b5:(wr.alloc (.cells #[Value.int IntKind.i64 0,Value.int IntKind.i64 0,Value.int IntKind.i64 0,Value.slice none 0 0] 86)).heap[wr.heap.size]?=some (.cells #[Value.int IntKind.i64 0,Value.int IntKind.i64 0,Value.int IntKind.i64 0,Value.slice none 0 0] 86 (0,0)):=heap_alloc_new wr _;obtain⟨W1,e0,k0,s0⟩:=cj (P:=Tryz.prog) (wr.alloc (.cells #[Value.int IntKind.i64 0,Value.int IntKind.i64 0,Value.int IntKind.i64 0,Value.slice none 0 0] 86)) wr.heap.size 0 _ 86 c0 b5 (by simp) o0;obtain⟨W2,e1,k1,s1⟩:=cj (P:=Tryz.prog) W1 wr.heap.size 1 _ 86 c1 k0 (by simp) o1;obtain⟨W3,e2,k2,s2⟩:=cj (P:=Tryz.prog) W2 wr.heap.size 2 _ 86 c2 k1 (by simp) o2;obtain⟨W4,e3,k3,s3⟩:=cj (P:=Tryz.prog) W3 wr.heap.size 3 _ 86 c3 k2 (by simp) o3;have kB:W4.heap[wr.heap.size]?=some (.cells #[c0,c1,c2,c3] 86 (0,0)):=k3;have sB:gO wr.heap.size (wr.alloc (.cells #[Value.int IntKind.i64 0,Value.int IntKind.i64 0,Value.int IntKind.i64 0,Value.slice none 0 0] 86)) W4:=(((s0.trans s1).trans s2).trans s3);have szB:W4.heap.size=wr.heap.size+1:=by rw[sB.size];simp
   have oB:∀ k,k<wr.heap.size->W4.heap[k]?=wr.heap[k]?:=λk hk=>(sB.other k (by omega)).trans (Go.heap_alloc_old wr _ hk)
   have l0:W4.cell? ⟨wr.heap.size,0,none⟩=some c0:=by rw[cell_of_row _ _ _ _ _ _ kB];rfl
   have l1:W4.cell? ⟨wr.heap.size,1,none⟩=some c1:=by rw[cell_of_row _ _ _ _ _ _ kB];rfl
   have l2:W4.cell? ⟨wr.heap.size,2,none⟩=some c2:=by rw[cell_of_row _ _ _ _ _ _ kB];rfl
   have l3:W4.cell? ⟨wr.heap.size,3,none⟩=some c3:=by rw[cell_of_row _ _ _ _ _ _ kB];rfl
   have cφ:=hφ W4 (by omega) (λk hk hn=>(oB k (by omega)).trans (hR.other k hk hn)) j hj;rw[y]at cφ;have e6:IntKind.i64.wrap ((j:Int)+1)=((j+1:Nat):Int):=by rw[FN];omega
   have e7:IntKind.i64.wrap ((p:Int)+1)=((p+1:Nat):Int):=by rw[FN];omega
   have cc:(p:Int)<(n:Int):=by omega
   have B:Aside (wr.heap[g]?=some (.cells r 86 (0,0))/\r.size=cur.size/\eJ w g n 4 86 cur.size del flat p j wr/\(flat.drop (j*4)).take 4=[c0,c1,c2,c3]/\W4.heap[wr.heap.size]?=some (.cells #[c0,c1,c2,c3] 86 (0,0))/\gO wr.heap.size (wr.alloc (.cells #[Value.int IntKind.i64 0,Value.int IntKind.i64 0,Value.int IntKind.i64 0,Value.slice none 0 0] 86)) W4/\W4.heap.size=wr.heap.size+1/\(∀ k,k<wr.heap.size->W4.heap[k]?=wr.heap[k]?)/\w.heap.size<=wr.heap.size/\(j+1)*4<=n*4/\(p+1)*4<=j*4/\n*4<=cur.size/\g<w.heap.size):=⟨X,a5,hR,y,kB,sB,szB,oB,a0,az,a3,I,Y⟩;clear H a7 M hφ a1 a4 hg J a2 I Y a9 a8 hi X a5 b1 b4 a0 az a3 hc y b5 kB sB szB oB k0 k1 k2 k3 s0 s1 s2 s3 b6 b9 ba bb;cases ay:del j with
   |true =>
    rw[ay]at cφ;have D:Aside (del j=true/\eJ w g n 4 86 cur.size del flat p j wr):=⟨ay,hR⟩;clear ay hR
    go_wp2
    refine cφ.mono ?_;rintro e W' ⟨rfl,R⟩
    go_wp2
    go_roundg (gk-1)
    case measure=>omega
    case rel =>
     obtain⟨X,a5,_,y,kB,sB,szB,oB,a0,az,a3,I,Y⟩:=B.out;exact⟨p,j+1,by first|rfl|simp,by first|rfl|simp,by omega,by omega,D.out.2.skip D.out.1 (R.os.trans sB.os) (R.tape.trans sB.tape) (R.output.trans sB.output) (by have:=R.size;omega) (λk hk=>(R.block k (by omega)).trans (oB k hk)) Y⟩
   |false =>
    rw[ay]at cφ;have D:Aside (del j=false/\eJ w g n 4 86 cur.size del flat p j wr):=⟨ay,hR⟩;clear ay hR
    go_wp2
    refine cφ.mono ?_;rintro e W' ⟨rfl,R⟩;obtain⟨X,a5,hR,y,kB,sB,szB,oB,a0,az,a3,I,Y⟩:=B.out;have kC:W'.heap[wr.heap.size]?=some (.cells #[c0,c1,c2,c3] 86 (0,0)):=(R.block _ (by omega)).trans kB;have rC:W'.heap[g]?=some (.cells r 86 (0,0)):=(R.block _ (by omega)).trans ((oB g (by omega)).trans X);have m0:W'.cell? ⟨wr.heap.size,0,none⟩=some c0:=by rw[cell_of_row _ _ _ _ _ _ kC];rfl
    have m1:W'.cell? ⟨wr.heap.size,1,none⟩=some c1:=by rw[cell_of_row _ _ _ _ _ _ kC];rfl
    have m2:W'.cell? ⟨wr.heap.size,2,none⟩=some c2:=by rw[cell_of_row _ _ _ _ _ _ kC];rfl
    have m3:W'.cell? ⟨wr.heap.size,3,none⟩=some c3:=by rw[cell_of_row _ _ _ _ _ _ kC];rfl
    obtain⟨V1,f0,q0,r0⟩:=cj (P:=Tryz.prog) W' g (p*4) _ 86 c0 rC (by (try simp only[FJ]);omega) o0;obtain⟨V2,f1,q1,r1⟩:=cj (P:=Tryz.prog) V1 g (p*4+1) _ 86 c1 q0 (by (try simp only[FJ]);omega) o1;obtain⟨V3,f2,q2,r2⟩:=cj (P:=Tryz.prog) V2 g (p*4+2) _ 86 c2 q1 (by (try simp only[FJ]);omega) o2;obtain⟨V4,f3,q3,r3⟩:=cj (P:=Tryz.prog) V3 g (p*4+3) _ 86 c3 q2 (by (try simp only[FJ]);omega) o3;have qV:V4.heap[g]?=some (.cells (gP r (p*4) [c0,c1,c2,c3]) 86 (0,0)):=q3;have sV:gO g W' V4:=(((r0.trans r1).trans r2).trans r3);have E2:Aside (V4.heap[g]?=some (.cells (gP r (p*4) [c0,c1,c2,c3]) 86 (0,0))/\gO g W' V4/\Below W4.heap.size W4 W'):=⟨qV,sV,R⟩;clear qV sV R X a5 hR y kB sB szB oB a0 az a3 I Y kC rC q0 q1 q2 q3 r0 r1 r2 r3 cφ
    go_wp2
    go_roundg (gk-1)
    case measure=>omega
    case rel =>
     obtain⟨X,a5,_,y,kB,sB,szB,oB,a0,az,a3,I,Y⟩:=B.out;obtain⟨qV,sV,R⟩:=E2.out;have d1:=R.size;have e4:=sV.size;exact⟨p+1,j+1,by first|rfl|simp,by first|rfl|simp,by omega,by omega,D.out.2.keep X D.out.1 (sV.os.trans (R.os.trans sB.os)) (sV.tape.trans (R.tape.trans sB.tape)) (sV.output.trans (R.output.trans sB.output)) (by omega)
      (λk hk hn=>(sV.other k hn).trans ((R.block k (by omega)).trans (oB k hk))) hj I qV rfl y⟩
  ·have bn:j=n:=by omega
   subst bn;have c4:¬ ((j:Int)<(j:Int)):=by omega
   have cw:(0:Int)<=(p:Int):=by omega
   have cc:¬ (O=p):=by omega
   have dd:p<=j:=by omega
   have dc:p<=O:=by omega
   obtain⟨a6,cp,b0,ad⟩:=nI (P:=Tryz.prog) wr 27 86 b2 z Tryz.underlying27 hi a9 g (p*4) (j-p) (O-p) r 86 X (by omega) (by rw[a8];simp only[FZ,FP,FQ];rw[<- Nat.add_mul];have:(p+(j-p))*4<=O*4:=FK _ (by omega);omega) (by rw[a8];simp[F6]);have B:Aside (wr.heap[g]?=some (.cells r 86 (0,0))/\r.size=cur.size/\eJ w g j 4 86 cur.size del flat p j wr/\r.toList.take (p*4)=kept 4 del flat j/\a6.size=r.size/\a6.toList.take (p*4)=r.toList.take (p*4)/\O<=maxLen/\O*4<=cur.size/\flat.length=j*4):=⟨X,a5,hR,b1,b0,ad,a2,a4,a7⟩;clear H a7 M hφ a1 a4 hg J a2 I Y a9 a8 hi X a5 b1 b4 a0 hR b0 ad
   go_wp2
   go_ret
   obtain⟨X,a5,hR,b1,b0,ad,a2,a4,a7⟩:=B.out;have bo:=qq (s:=4) (del:=del) (flat:=flat) (j:=j) (by omega);have b3:=hR.cnt;refine⟨.slice (some ⟨g,0,none⟩) p O,rfl,⟨bo,.inr ⟨g,O,a6,_,by rw[b3],setRow_heap wr g r a6 86 (0,0) X,by omega,.inl ⟨rfl,a2⟩,by omega,by rw[<- b3,ad,b1]⟩⟩,⟨hR.os,hR.tape,hR.output,by simpa using hR.size,λk hk hn=>(setRow_other wr g k a6 (λh=>hn (by rw[h]))).trans (hR.other k hk (λh=>hn (by rw[h])))⟩,rfl⟩
set_option maxHeartbeats 4000000 in
theorem del_none (w:World)(z I:Value)(u:Calls Tryz.prog 272 #[z,I] w λe H=>e=.returned (.int .i64 (-1))/\Below w.heap.size w H) :
  Calls Tryz.prog 215 #[z,I] w λe H=>e=.returned z/\Below w.heap.size w H:=by
 have mixed:Tryz.prog.follows .mixedOrders=true:=by kernel_rfl
 have J:∀ r w,(callFunc 272 r).run Tryz.prog w=.ok (.enter 272 r) w:=λr w=>c7 Tryz.func272 (by kernel_rfl) rfl r w
 go_enter Tryz.func215,Tryz.ntmps215
 go_wp2_with (go_at_fn 272;refine u.mono ?_;rintro e W ⟨rfl,y⟩)
 go_ret
 exact⟨rfl,y⟩
theorem walk:si Tryz.prog 215 272 86 4 where
 none_:=λw v0 fv n r _ h=>del_none w v0 fv h
 some_:=λw g n O r fi y X p0 J h1 ef hp hd hk hφ I=>by
  have q1:(Tryz.prog.info? 86).isSome=true:=by kernel_rfl
  have q2:((Tryz.prog.info? 86).bind λi=>i.zero).map (λz=>z.cells)=some #[Value.int IntKind.i64 0,Value.int IntKind.i64 0,Value.int IntKind.i64 0,Value.slice none 0 0]:=by kernel_rfl
  obtain⟨a3,hi⟩:=FS.1 q1;rw[hi]at q2;simp only[F2,FU]at q2;obtain⟨z,hz,a2⟩:=q2;obtain⟨a0,⟨M,_⟩|⟨g',a4,R,mk,M,hg,a1,Y,Z,u⟩⟩:=J
  ·cases M
  ·simp only[F0,F1,F7,and_true,true_and]at M;obtain⟨rfl,rfl⟩:=M;obtain⟨rfl,H⟩:=Y.elim id (λh=>absurd h.1 (by decide));exact del_walk w g n O R r a3 z hi hz a2 hg H Z u a0 h1 a1 fi y ef X p0 hp hd hk hφ I
end Q4
namespace Q11
set_option maxHeartbeats 4000000 in
theorem del_walk (w:World)(g n O:Nat)(cur:Array Value)(flat:List Value)(b2:TypeInfo)(z:Value)(hi:Tryz.prog.info? 133=some b2)(a9:b2.zero=some z)(a8:z.cells=#[Value.int IntKind.i64 0,Value.int IntKind.i64 0,Value.int IntKind.i64 0,Value.bool false,Value.int IntKind.i64 0])
  (hg:w.heap[g]?=some (.cells cur 133 (0,0))) (a2:O<=maxLen) (a4:O*5<=cur.size) (M:cur.toList.take (n*5)=flat) (a7:flat.length=n*5) (a0:∀ u∈flat,u.oneCell'=true) (cb:n<=O)
  (fi:Nat) (caps:Array Value) (ef:fR Tryz.prog fi) (del:Nat->Bool) (p0:Nat) (cc:p0<n) (J:del p0=true) (H:∀ j,j<p0->del j=false)
  (hφ:(∀ w1:World,w.heap.size<=w1.heap.size->(∀ k,k<w.heap.size->k≠g->w1.heap[k]?=w.heap[k]?)->∀ j,j<n->Calls Tryz.prog fi (#[.agg ((flat.drop (j*5)).take 5).toArray]++caps) w1 (λe w2=>e=.returned (.bool (del j))/\Below w1.heap.size w1 w2)))
  (bn:Calls Tryz.prog 205 #[.slice (some ⟨g,0,none⟩) n O,.func (.func fi) #[] caps] w λe w'=>e=.returned (.int .i64 p0)/\Below w.heap.size w w') :
  Calls Tryz.prog 288 #[.slice (some ⟨g,0,none⟩) n O,.func (.func fi) #[] caps] w λe w'=>∃ v',e=.returned v'/\Row w' 133 5 v' (dN del n) (kept 5 del flat n)/\w.grownBy w' (some g)/\v'.ownBlock=some g:=by
 have cx:O<=9223372036854775807:=by simp only[maxLen]at a2;omega
 have hz:¬ ((p0:Int)=-1):=by omega
 have mixed:Tryz.prog.follows .mixedOrders=true:=by kernel_rfl
 have eb:IntKind.i64.wrap ((p0:Int)+1)=((p0+1:Nat):Int):=by rw[FN];omega
 have eI:∀ Z w,(callFunc 205 Z).run Tryz.prog w=.ok (.enter 205 Z) w:=λZ w=>c7 Tryz.func205 (by kernel_rfl) rfl Z w
 have d2:∀ Z w,(callFunc fi Z).run Tryz.prog w=.ok (.enter fi Z) w:=ef;have Y:g<w.heap.size:=(FR.1 hg).1;have I:n*5<=cur.size:=Nat.le_trans (FK _ cb) a4;have A:Aside ((∀ j,j<p0->del j=false)/\flat.length=n*5/\cur.toList.take (n*5)=flat/\(∀ w1:World,w.heap.size<=w1.heap.size->(∀ k,k<w.heap.size->k≠g->w1.heap[k]?=w.heap[k]?)->∀ j,j<n->Calls Tryz.prog fi (#[.agg ((flat.drop (j*5)).take 5).toArray]++caps) w1 (λe w2=>e=.returned (.bool (del j))/\Below w1.heap.size w1 w2))/\(∀ u∈flat,u.oneCell'=true)/\O*5<=cur.size/\w.heap[g]?=some (.cells cur 133 (0,0))/\del p0=true/\O<=maxLen/\n*5<=cur.size/\g<w.heap.size/\b2.zero=some z/\z.cells=#[Value.int IntKind.i64 0,Value.int IntKind.i64 0,Value.int IntKind.i64 0,Value.bool false,Value.int IntKind.i64 0]/\Tryz.prog.info? 133=some b2):=⟨H,a7,M,hφ,a0,a4,hg,J,a2,I,Y,a9,a8,hi⟩;clear H a7 M hφ a0 a4 hg J a2 I Y a9 a8 hi
 go_enter Tryz.func288,Tryz.ntmps288
 go_wp2_with (go_at_fn 205;refine bn.mono ?_;rintro e W ⟨rfl,aw⟩)
 go_loopg [5,6] n (λk s5 s6 wx=>∃ p j:Nat,s5=.int .i64 p/\s6=.int .i64 j/\j<=n/\n<=j+k/\eJ w g n 5 133 cur.size del flat p j wx)
 case atStart =>
  obtain⟨H,a7,M,hφ,a0,a4,hg,J,a2,I,Y,a9,a8,hi⟩:=A.out;have d1:(p0+1)*5<=n*5:=FK _ cc;have hk:=qp (s:=5) (flat:=flat) H (by omega);refine⟨p0,p0+1,rfl,by first|rfl|simp,by omega,by omega,aw.os,aw.tape,aw.output,aw.size,λk hk _=>aw.block k hk,⟨cur,(aw.block g Y).trans hg,rfl,?_,λt _ ht=>?_⟩,?_,by omega⟩
  ·simp only[kept,J,if_true,F3];rw[hk.1,<- M,F5,F4 (by omega)]
  ·rw[<- M,FO,if_pos ht,FV]
  ·simp only[dN,J,if_true,FT,hk.2]
 case round =>
  obtain⟨p,j,rfl,rfl,e5,dd,hR⟩:=hrel;obtain⟨H,a7,M,hφ,a0,a4,hg,J,a2,I,Y,a9,a8,hi⟩:=A.out;obtain⟨r,X,a5,b1,b4⟩:=hR.row;have cp:=hR.lt;have a1:=hR.size;by_cases hj:j<n
  ·have c6:(j:Int)<(n:Int):=by omega
   have az:(j+1)*5<=n*5:=FK _ hj;have a3:(p+1)*5<=j*5:=FK _ cp;have hc:∀ t,t<5->∃ u,wr.cell? ⟨g,j*5+t,none⟩=some u/\flat[j*5+t]?=some u:=λt ht =>
    ⟨r[j*5+t]'(by omega),by rw[cell_of_row wr g _ r 133 (0,0) X];exact FM (by omega),by rw[<- b4 _ (by omega) (by omega)];exact FM (by omega)⟩
   obtain⟨c0,c5,b6⟩:=hc 0 (by omega);obtain⟨c1,d4,b9⟩:=hc 1 (by omega);obtain⟨c2,d5,ba⟩:=hc 2 (by omega);obtain⟨c3,d6,bb⟩:=hc 3 (by omega);obtain⟨c4,dc,bl⟩:=hc 4 (by omega);rw[FT]at c5;have o0:=a0 c0 (FL b6);have o1:=a0 c1 (FL b9);have o2:=a0 c2 (FL ba);have o3:=a0 c3 (FL bb);have o4:=a0 c4 (FL bl);have y:(flat.drop (j*5)).take 5=[c0,c1,c2,c3,c4]:=by
    refine FY λi=>?_
    rw[FO];split
    ·rename_i hi;rw[FX];rcases i with _|(_|(_|(_|(_|_))));all_goals first|assumption|omega
    ·rename_i hi;exact (FW (by simp only[FP,FQ];omega)).symm
   have b5:(wr.alloc (.cells #[Value.int IntKind.i64 0,Value.int IntKind.i64 0,Value.int IntKind.i64 0,Value.bool false,Value.int IntKind.i64 0] 133)).heap[wr.heap.size]?=some (.cells #[Value.int IntKind.i64 0,Value.int IntKind.i64 0,Value.int IntKind.i64 0,Value.bool false,Value.int IntKind.i64 0] 133 (0,0)):=heap_alloc_new wr _;obtain⟨W1,e0,k0,s0⟩:=cj (P:=Tryz.prog) (wr.alloc (.cells #[Value.int IntKind.i64 0,Value.int IntKind.i64 0,Value.int IntKind.i64 0,Value.bool false,Value.int IntKind.i64 0] 133)) wr.heap.size 0 _ 133 c0 b5 (by simp) o0;obtain⟨W2,e1,k1,s1⟩:=cj (P:=Tryz.prog) W1 wr.heap.size 1 _ 133 c1 k0 (by simp) o1;obtain⟨W3,e2,k2,s2⟩:=cj (P:=Tryz.prog) W2 wr.heap.size 2 _ 133 c2 k1 (by simp) o2;obtain⟨W4,e3,k3,s3⟩:=cj (P:=Tryz.prog) W3 wr.heap.size 3 _ 133 c3 k2 (by simp) o3;obtain⟨W5,e4,k4,s4⟩:=cj (P:=Tryz.prog) W4 wr.heap.size 4 _ 133 c4 k3 (by simp) o4;have kB:W5.heap[wr.heap.size]?=some (.cells #[c0,c1,c2,c3,c4] 133 (0,0)):=k4;have sB:gO wr.heap.size (wr.alloc (.cells #[Value.int IntKind.i64 0,Value.int IntKind.i64 0,Value.int IntKind.i64 0,Value.bool false,Value.int IntKind.i64 0] 133)) W5:=((((s0.trans s1).trans s2).trans s3).trans s4);have szB:W5.heap.size=wr.heap.size+1:=by rw[sB.size];simp
   have oB:∀ k,k<wr.heap.size->W5.heap[k]?=wr.heap[k]?:=λk hk=>(sB.other k (by omega)).trans (Go.heap_alloc_old wr _ hk)
   have l0:W5.cell? ⟨wr.heap.size,0,none⟩=some c0:=by rw[cell_of_row _ _ _ _ _ _ kB];rfl
   have l1:W5.cell? ⟨wr.heap.size,1,none⟩=some c1:=by rw[cell_of_row _ _ _ _ _ _ kB];rfl
   have l2:W5.cell? ⟨wr.heap.size,2,none⟩=some c2:=by rw[cell_of_row _ _ _ _ _ _ kB];rfl
   have l3:W5.cell? ⟨wr.heap.size,3,none⟩=some c3:=by rw[cell_of_row _ _ _ _ _ _ kB];rfl
   have l4:W5.cell? ⟨wr.heap.size,4,none⟩=some c4:=by rw[cell_of_row _ _ _ _ _ _ kB];rfl
   have cφ:=hφ W5 (by omega) (λk hk hn=>(oB k (by omega)).trans (hR.other k hk hn)) j hj;rw[y]at cφ;have ec:IntKind.i64.wrap ((j:Int)+1)=((j+1:Nat):Int):=by rw[FN];omega
   have ed:IntKind.i64.wrap ((p:Int)+1)=((p+1:Nat):Int):=by rw[FN];omega
   have cu:(p:Int)<(n:Int):=by omega
   have B:Aside (wr.heap[g]?=some (.cells r 133 (0,0))/\r.size=cur.size/\eJ w g n 5 133 cur.size del flat p j wr/\(flat.drop (j*5)).take 5=[c0,c1,c2,c3,c4]/\W5.heap[wr.heap.size]?=some (.cells #[c0,c1,c2,c3,c4] 133 (0,0))/\gO wr.heap.size (wr.alloc (.cells #[Value.int IntKind.i64 0,Value.int IntKind.i64 0,Value.int IntKind.i64 0,Value.bool false,Value.int IntKind.i64 0] 133)) W5/\W5.heap.size=wr.heap.size+1/\(∀ k,k<wr.heap.size->W5.heap[k]?=wr.heap[k]?)/\w.heap.size<=wr.heap.size/\(j+1)*5<=n*5/\(p+1)*5<=j*5/\n*5<=cur.size/\g<w.heap.size):=⟨X,a5,hR,y,kB,sB,szB,oB,a1,az,a3,I,Y⟩;clear H a7 M hφ a0 a4 hg J a2 I Y a9 a8 hi X a5 b1 b4 a1 az a3 hc y b5 kB sB szB oB k0 k1 k2 k3 k4 s0 s1 s2 s3 s4 b6 b9 ba bb bl;cases ay:del j with
   |true =>
    rw[ay]at cφ;have D:Aside (del j=true/\eJ w g n 5 133 cur.size del flat p j wr):=⟨ay,hR⟩;clear ay hR
    go_wp2
    refine cφ.mono ?_;rintro e W' ⟨rfl,R⟩
    go_wp2
    go_roundg (gk-1)
    case measure=>omega
    case rel =>
     obtain⟨X,a5,_,y,kB,sB,szB,oB,a1,az,a3,I,Y⟩:=B.out;exact⟨p,j+1,by first|rfl|simp,by first|rfl|simp,by omega,by omega,D.out.2.skip D.out.1 (R.os.trans sB.os) (R.tape.trans sB.tape) (R.output.trans sB.output) (by have:=R.size;omega) (λk hk=>(R.block k (by omega)).trans (oB k hk)) Y⟩
   |false =>
    rw[ay]at cφ;have D:Aside (del j=false/\eJ w g n 5 133 cur.size del flat p j wr):=⟨ay,hR⟩;clear ay hR
    go_wp2
    refine cφ.mono ?_;rintro e W' ⟨rfl,R⟩;obtain⟨X,a5,hR,y,kB,sB,szB,oB,a1,az,a3,I,Y⟩:=B.out;have kC:W'.heap[wr.heap.size]?=some (.cells #[c0,c1,c2,c3,c4] 133 (0,0)):=(R.block _ (by omega)).trans kB;have rC:W'.heap[g]?=some (.cells r 133 (0,0)):=(R.block _ (by omega)).trans ((oB g (by omega)).trans X);have m0:W'.cell? ⟨wr.heap.size,0,none⟩=some c0:=by rw[cell_of_row _ _ _ _ _ _ kC];rfl
    have m1:W'.cell? ⟨wr.heap.size,1,none⟩=some c1:=by rw[cell_of_row _ _ _ _ _ _ kC];rfl
    have m2:W'.cell? ⟨wr.heap.size,2,none⟩=some c2:=by rw[cell_of_row _ _ _ _ _ _ kC];rfl
    have m3:W'.cell? ⟨wr.heap.size,3,none⟩=some c3:=by rw[cell_of_row _ _ _ _ _ _ kC];rfl
    have m4:W'.cell? ⟨wr.heap.size,4,none⟩=some c4:=by rw[cell_of_row _ _ _ _ _ _ kC];rfl
    obtain⟨V1,f0,q0,r0⟩:=cj (P:=Tryz.prog) W' g (p*5) _ 133 c0 rC (by (try simp only[FJ]);omega) o0;obtain⟨V2,f1,q1,r1⟩:=cj (P:=Tryz.prog) V1 g (p*5+1) _ 133 c1 q0 (by (try simp only[FJ]);omega) o1;obtain⟨V3,f2,q2,r2⟩:=cj (P:=Tryz.prog) V2 g (p*5+2) _ 133 c2 q1 (by (try simp only[FJ]);omega) o2;obtain⟨V4,f3,q3,r3⟩:=cj (P:=Tryz.prog) V3 g (p*5+3) _ 133 c3 q2 (by (try simp only[FJ]);omega) o3;obtain⟨V5,f4,q4,r4⟩:=cj (P:=Tryz.prog) V4 g (p*5+4) _ 133 c4 q3 (by (try simp only[FJ]);omega) o4;have qV:V5.heap[g]?=some (.cells (gP r (p*5) [c0,c1,c2,c3,c4]) 133 (0,0)):=q4;have sV:gO g W' V5:=((((r0.trans r1).trans r2).trans r3).trans r4);have E2:Aside (V5.heap[g]?=some (.cells (gP r (p*5) [c0,c1,c2,c3,c4]) 133 (0,0))/\gO g W' V5/\Below W5.heap.size W5 W'):=⟨qV,sV,R⟩;clear qV sV R X a5 hR y kB sB szB oB a1 az a3 I Y kC rC q0 q1 q2 q3 q4 r0 r1 r2 r3 r4 cφ
    go_wp2
    go_roundg (gk-1)
    case measure=>omega
    case rel =>
     obtain⟨X,a5,_,y,kB,sB,szB,oB,a1,az,a3,I,Y⟩:=B.out;obtain⟨qV,sV,R⟩:=E2.out;have d3:=R.size;have ea:=sV.size;exact⟨p+1,j+1,by first|rfl|simp,by first|rfl|simp,by omega,by omega,D.out.2.keep X D.out.1 (sV.os.trans (R.os.trans sB.os)) (sV.tape.trans (R.tape.trans sB.tape)) (sV.output.trans (R.output.trans sB.output)) (by omega)
      (λk hk hn=>(sV.other k hn).trans ((R.block k (by omega)).trans (oB k hk))) hj I qV rfl y⟩
  ·have bo:j=n:=by omega
   subst bo;have c6:¬ ((j:Int)<(j:Int)):=by omega
   have cy:(0:Int)<=(p:Int):=by omega
   have cu:¬ (O=p):=by omega
   have e7:p<=j:=by omega
   have e6:p<=O:=by omega
   obtain⟨a6,cw,b0,ad⟩:=nI (P:=Tryz.prog) wr 24 133 b2 z Tryz.underlying24 hi a9 g (p*5) (j-p) (O-p) r 133 X (by omega) (by rw[a8];simp only[FZ,FP,FQ];rw[<- Nat.add_mul];have:(p+(j-p))*5<=O*5:=FK _ (by omega);omega) (by rw[a8];simp[F6]);have B:Aside (wr.heap[g]?=some (.cells r 133 (0,0))/\r.size=cur.size/\eJ w g j 5 133 cur.size del flat p j wr/\r.toList.take (p*5)=kept 5 del flat j/\a6.size=r.size/\a6.toList.take (p*5)=r.toList.take (p*5)/\O<=maxLen/\O*5<=cur.size/\flat.length=j*5):=⟨X,a5,hR,b1,b0,ad,a2,a4,a7⟩;clear H a7 M hφ a0 a4 hg J a2 I Y a9 a8 hi X a5 b1 b4 a1 hR b0 ad
   go_wp2
   go_ret
   obtain⟨X,a5,hR,b1,b0,ad,a2,a4,a7⟩:=B.out;have bx:=qq (s:=5) (del:=del) (flat:=flat) (j:=j) (by omega);have b3:=hR.cnt;refine⟨.slice (some ⟨g,0,none⟩) p O,rfl,⟨bx,.inr ⟨g,O,a6,_,by rw[b3],setRow_heap wr g r a6 133 (0,0) X,by omega,.inl ⟨rfl,a2⟩,by omega,by rw[<- b3,ad,b1]⟩⟩,⟨hR.os,hR.tape,hR.output,by simpa using hR.size,λk hk hn=>(setRow_other wr g k a6 (λh=>hn (by rw[h]))).trans (hR.other k hk (λh=>hn (by rw[h])))⟩,rfl⟩
set_option maxHeartbeats 4000000 in
theorem del_none (w:World)(z I:Value)(u:Calls Tryz.prog 205 #[z,I] w λe H=>e=.returned (.int .i64 (-1))/\Below w.heap.size w H) :
  Calls Tryz.prog 288 #[z,I] w λe H=>e=.returned z/\Below w.heap.size w H:=by
 have mixed:Tryz.prog.follows .mixedOrders=true:=by kernel_rfl
 have J:∀ r w,(callFunc 205 r).run Tryz.prog w=.ok (.enter 205 r) w:=λr w=>c7 Tryz.func205 (by kernel_rfl) rfl r w
 go_enter Tryz.func288,Tryz.ntmps288
 go_wp2_with (go_at_fn 205;refine u.mono ?_;rintro e W ⟨rfl,y⟩)
 go_ret
 exact⟨rfl,y⟩
theorem walk:si Tryz.prog 288 205 133 5 where
 none_:=λw v0 fv n r _ h=>del_none w v0 fv h
 some_:=λw g n O r fi y X p0 J h1 ef hp hd hk hφ I=>by
  have q1:(Tryz.prog.info? 133).isSome=true:=by kernel_rfl
  have q2:((Tryz.prog.info? 133).bind λi=>i.zero).map (λz=>z.cells)=some #[Value.int IntKind.i64 0,Value.int IntKind.i64 0,Value.int IntKind.i64 0,Value.bool false,Value.int IntKind.i64 0]:=by kernel_rfl
  obtain⟨a3,hi⟩:=FS.1 q1;rw[hi]at q2;simp only[F2,FU]at q2;obtain⟨z,hz,a2⟩:=q2;obtain⟨a0,⟨M,_⟩|⟨g',a4,R,mk,M,hg,a1,Y,Z,u⟩⟩:=J
  ·cases M
  ·simp only[F0,F1,F7,and_true,true_and]at M;obtain⟨rfl,rfl⟩:=M;obtain⟨rfl,H⟩:=Y.elim id (λh=>absurd h.1 (by decide));exact del_walk w g n O R r a3 z hi hz a2 hg H Z u a0 h1 a1 fi y ef X p0 hp hd hk hφ I
end Q11
end Go.Proofs.YtmibehbhnkeaiaaGreatEv
