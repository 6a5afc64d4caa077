/- slices.DeleteFunc, walked. Printed by delete.py. -/
import Derived.Test.YtaegajachoklkaaGreatProg
import Derived.Test.YtaegajachoklkaaGreatEvS
import Derived.Test.YtaegajachoklkaaGreatE6
import Derived.Shelf.Spec.SlicesInsert
import Derived.Deep.LoopGhost
set_option linter.unusedVariables false
set_option maxRecDepth 100000
set_option linter.unusedVariables false
set_option linter.unusedSimpArgs false
open Array renaming size_setIfInBounds->BU,getElem?_eq_getElem->BX,getElem?_eq_some_iff->B5,getElem?_toList->B9
open Go.Addr.mk renaming injEq->CL
open Go.IntKind renaming wrap_i64->BY
open Go.Value renaming oneCell'->CK
open Go.Value.slice renaming injEq->CE
open List renaming mem_of_getElem?->BW,getElem?_take->BZ,length_cons->B3,length_nil->B4,getElem?_eq_none->CA,getElem?_drop->CB,ext_getElem?->CC,size_toArray->CD,append_nil->CH,take_take->CJ
open Nat renaming mul_le_mul_right->BV,add_zero->B7,min_eq_left->CI
open Option renaming isSome_iff_exists->B6,map_eq_some_iff->B8,bind_some->CG
open Option.some renaming injEq->CF
namespace Go.Proofs.YtaegajachoklkaaGreatEv
open Go Go.Proofs Go.Shelf Go.RowKit Go.Lib
namespace Q4
set_option maxHeartbeats 4000000 in
theorem del_walk (w:World)(g n R:Nat)(cur:Array Value)(flat:List Value)(b5:TypeInfo)(z:Value)(hi:Tryz.prog.info? 61=some b5)(a9:b5.zero=some z)(a8:z.cells=#[Value.int IntKind.i64 0,Value.int IntKind.i64 0,Value.int IntKind.i64 0,Value.slice none 0 0])
  (hg:w.heap[g]?=some (.cells cur 61 (0,0))) (a1:R<=maxLen) (a5:R*4<=cur.size) (J:cur.toList.take (n*4)=flat) (a6:flat.length=n*4) (a2:∀ u∈flat,u.oneCell'=true) (cw:n<=R)
  (fi:Nat) (caps:Array Value) (ef:ge Tryz.prog fi) (del:Nat->Bool) (p0:Nat) (cy:p0<n) (M:del p0=true) (H:∀ j,j<p0->del j=false)
  (hφ:(∀ w1:World,w.heap.size<=w1.heap.size->(∀ k,k<w.heap.size->k≠g->w1.heap[k]?=w.heap[k]?)->∀ j,j<n->Calls Tryz.prog fi (#[.agg ((flat.drop (j*4)).take 4).toArray]++caps) w1 (λe w2=>e=.returned (.bool (del j))/\Below w1.heap.size w1 w2)))
  (cp:Calls Tryz.prog 82 #[.slice (some ⟨g,0,none⟩) n R,.func (.func fi) #[] caps] w λe w'=>e=.returned (.int .i64 p0)/\Below w.heap.size w w') :
  Calls Tryz.prog 173 #[.slice (some ⟨g,0,none⟩) n R,.func (.func fi) #[] caps] w λe w'=>∃ v',e=.returned v'/\Row w' 61 4 v' (dI del n) (fO 4 del flat n)/\w.grownBy w' (some g)/\v'.ownBlock=some g:=by
 have d3:R<=9223372036854775807:=by simp only[maxLen]at a1;omega
 have hz:¬ ((p0:Int)=-1):=by omega
 have mixed:Tryz.prog.follows .mixedOrders=true:=by kernel_rfl
 have es:IntKind.i64.wrap ((p0:Int)+1)=((p0+1:Nat):Int):=by rw[BY];omega
 have eI:∀ a0 w,(callFunc 82 a0).run Tryz.prog w=.ok (.enter 82 a0) w:=λa0 w=>ea Tryz.func82 (by kernel_rfl) rfl a0 w
 have em:∀ a0 w,(callFunc fi a0).run Tryz.prog w=.ok (.enter fi a0) w:=ef;have Y:g<w.heap.size:=(B5.1 hg).1;have I:n*4<=cur.size:=Nat.le_trans (BV _ cw) a5;have A:Aside ((∀ j,j<p0->del j=false)/\flat.length=n*4/\cur.toList.take (n*4)=flat/\(∀ w1:World,w.heap.size<=w1.heap.size->(∀ k,k<w.heap.size->k≠g->w1.heap[k]?=w.heap[k]?)->∀ j,j<n->Calls Tryz.prog fi (#[.agg ((flat.drop (j*4)).take 4).toArray]++caps) w1 (λe w2=>e=.returned (.bool (del j))/\Below w1.heap.size w1 w2))/\(∀ u∈flat,u.oneCell'=true)/\R*4<=cur.size/\w.heap[g]?=some (.cells cur 61 (0,0))/\del p0=true/\R<=maxLen/\n*4<=cur.size/\g<w.heap.size/\b5.zero=some z/\z.cells=#[Value.int IntKind.i64 0,Value.int IntKind.i64 0,Value.int IntKind.i64 0,Value.slice none 0 0]/\Tryz.prog.info? 61=some b5):=⟨H,a6,J,hφ,a2,a5,hg,M,a1,I,Y,a9,a8,hi⟩;clear H a6 J hφ a2 a5 hg M a1 I Y a9 a8 hi
 go_enter Tryz.func173,Tryz.ntmps173
 go_wp2_with (go_at_fn 82;refine cp.mono ?_;rintro e W ⟨rfl,b0⟩)
 go_loopg [5,6] n (λk s5 s6 wx=>∃ p j:Nat,s5=.int .i64 p/\s6=.int .i64 j/\j<=n/\n<=j+k/\eq w g n 4 61 cur.size del flat p j wx)
 case atStart =>
  obtain⟨H,a6,J,hφ,a2,a5,hg,M,a1,I,Y,a9,a8,hi⟩:=A.out;have e4:(p0+1)*4<=n*4:=BV _ cy;have hk:=pz (s:=4) (flat:=flat) H (by omega);refine⟨p0,p0+1,rfl,by first|rfl|simp,by omega,by omega,b0.os,b0.tape,b0.output,b0.size,λk hk _=>b0.block k hk,⟨cur,(b0.block g Y).trans hg,rfl,?_,λt _ ht=>?_⟩,?_,by omega⟩
  ·simp only[fO,M,if_true,CH];rw[hk.1,<- J,CJ,CI (by omega)]
  ·rw[<- J,BZ,if_pos ht,B9]
  ·simp only[dI,M,if_true,B7,hk.2]
 case round =>
  obtain⟨p,j,rfl,rfl,ed,e6,hR⟩:=hrel;obtain⟨H,a6,J,hφ,a2,a5,hg,M,a1,I,Y,a9,a8,hi⟩:=A.out;obtain⟨y,X,a4,b3,ba⟩:=hR.row;have cx:=hR.lt;have Z:=hR.size;by_cases hj:j<n
  ·have d1:(j:Int)<(n:Int):=by omega
   have b1:(j+1)*4<=n*4:=BV _ hj;have a3:(p+1)*4<=j*4:=BV _ cx;have hc:∀ t,t<4->∃ u,wr.cell? ⟨g,j*4+t,none⟩=some u/\flat[j*4+t]?=some u:=λt ht =>
    ⟨y[j*4+t]'(by omega),by rw[cell_of_row wr g _ y 61 (0,0) X];exact BX (by omega),by rw[<- ba _ (by omega) (by omega)];exact BX (by omega)⟩
   obtain⟨c0,d2,bl⟩:=hc 0 (by omega);obtain⟨c1,et,bx⟩:=hc 1 (by omega);obtain⟨c2,eb,cc⟩:=hc 2 (by omega);obtain⟨c3,en,bn⟩:=hc 3 (by omega);rw[B7]at d2;have o0:=a2 c0 (BW bl);have o1:=a2 c1 (BW bx);have o2:=a2 c2 (BW cc);have o3:=a2 c3 (BW bn);have r:(flat.drop (j*4)).take 4=[c0,c1,c2,c3]:=by
    refine CC λi=>?_
    rw[BZ];split
    ·rename_i hi;rw[CB];rcases i with _|(_|(_|(_|_)));all_goals first|assumption|omega
    ·rename_i hi;exact (CA (by simp only[B3,B4];omega)).symm
   have bb:(wr.alloc (.cells #[Value.int IntKind.i64 0,Value.int IntKind.i64 0,Value.int IntKind.i64 0,Value.slice none 0 0] 61)).heap[wr.heap.size]?=some (.cells #[Value.int IntKind.i64 0,Value.int IntKind.i64 0,Value.int IntKind.i64 0,Value.slice none 0 0] 61 (0,0)):=heap_alloc_new wr _;obtain⟨W1,e0,k0,s0⟩:=ca (P:=Tryz.prog) (wr.alloc (.cells #[Value.int IntKind.i64 0,Value.int IntKind.i64 0,Value.int IntKind.i64 0,Value.slice none 0 0] 61)) wr.heap.size 0 _ 61 c0 bb (by simp) o0;obtain⟨W2,e1,k1,s1⟩:=ca (P:=Tryz.prog) W1 wr.heap.size 1 _ 61 c1 k0 (by simp) o1;obtain⟨W3,e2,k2,s2⟩:=ca (P:=Tryz.prog) W2 wr.heap.size 2 _ 61 c2 k1 (by simp) o2;obtain⟨W4,e3,k3,s3⟩:=ca (P:=Tryz.prog) W3 wr.heap.size 3 _ 61 c3 k2 (by simp) o3;have kB:W4.heap[wr.heap.size]?=some (.cells #[c0,c1,c2,c3] 61 (0,0)):=k3;have sB:gr wr.heap.size (wr.alloc (.cells #[Value.int IntKind.i64 0,Value.int IntKind.i64 0,Value.int IntKind.i64 0,Value.slice none 0 0] 61)) W4:=(((s0.trans s1).trans s2).trans s3);have szB:W4.heap.size=wr.heap.size+1:=by rw[sB.size];simp
   have oB:∀ k,k<wr.heap.size->W4.heap[k]?=wr.heap[k]?:=λk hk=>(sB.other k (by omega)).trans (Go.heap_alloc_old wr _ hk)
   have l0:W4.cell? ⟨wr.heap.size,0,none⟩=some c0:=by rw[cell_of_row _ _ _ _ _ _ kB];rfl
   have l1:W4.cell? ⟨wr.heap.size,1,none⟩=some c1:=by rw[cell_of_row _ _ _ _ _ _ kB];rfl
   have l2:W4.cell? ⟨wr.heap.size,2,none⟩=some c2:=by rw[cell_of_row _ _ _ _ _ _ kB];rfl
   have l3:W4.cell? ⟨wr.heap.size,3,none⟩=some c3:=by rw[cell_of_row _ _ _ _ _ _ kB];rfl
   have cφ:=hφ W4 (by omega) (λk hk hn=>(oB k (by omega)).trans (hR.other k hk hn)) j hj;rw[r]at cφ;have ej:IntKind.i64.wrap ((j:Int)+1)=((j+1:Nat):Int):=by rw[BY];omega
   have ev:IntKind.i64.wrap ((p:Int)+1)=((p+1:Nat):Int):=by rw[BY];omega
   have cu:(p:Int)<(n:Int):=by omega
   have B:Aside (wr.heap[g]?=some (.cells y 61 (0,0))/\y.size=cur.size/\eq w g n 4 61 cur.size del flat p j wr/\(flat.drop (j*4)).take 4=[c0,c1,c2,c3]/\W4.heap[wr.heap.size]?=some (.cells #[c0,c1,c2,c3] 61 (0,0))/\gr wr.heap.size (wr.alloc (.cells #[Value.int IntKind.i64 0,Value.int IntKind.i64 0,Value.int IntKind.i64 0,Value.slice none 0 0] 61)) W4/\W4.heap.size=wr.heap.size+1/\(∀ k,k<wr.heap.size->W4.heap[k]?=wr.heap[k]?)/\w.heap.size<=wr.heap.size/\(j+1)*4<=n*4/\(p+1)*4<=j*4/\n*4<=cur.size/\g<w.heap.size):=⟨X,a4,hR,r,kB,sB,szB,oB,Z,b1,a3,I,Y⟩;clear H a6 J hφ a2 a5 hg M a1 I Y a9 a8 hi X a4 b3 ba Z b1 a3 hc r bb kB sB szB oB k0 k1 k2 k3 s0 s1 s2 s3 bl bx cc bn;cases b2:del j with
   |true =>
    rw[b2]at cφ;have D:Aside (del j=true/\eq w g n 4 61 cur.size del flat p j wr):=⟨b2,hR⟩;clear b2 hR
    go_wp2
    refine cφ.mono ?_;rintro e W' ⟨rfl,O⟩
    go_wp2
    go_roundg (gk-1)
    case measure=>omega
    case rel =>
     obtain⟨X,a4,_,r,kB,sB,szB,oB,Z,b1,a3,I,Y⟩:=B.out;exact⟨p,j+1,by first|rfl|simp,by first|rfl|simp,by omega,by omega,D.out.2.skip D.out.1 (O.os.trans sB.os) (O.tape.trans sB.tape) (O.output.trans sB.output) (by have:=O.size;omega) (λk hk=>(O.block k (by omega)).trans (oB k hk)) Y⟩
   |false =>
    rw[b2]at cφ;have D:Aside (del j=false/\eq w g n 4 61 cur.size del flat p j wr):=⟨b2,hR⟩;clear b2 hR
    go_wp2
    refine cφ.mono ?_;rintro e W' ⟨rfl,O⟩;obtain⟨X,a4,hR,r,kB,sB,szB,oB,Z,b1,a3,I,Y⟩:=B.out;have kC:W'.heap[wr.heap.size]?=some (.cells #[c0,c1,c2,c3] 61 (0,0)):=(O.block _ (by omega)).trans kB;have rC:W'.heap[g]?=some (.cells y 61 (0,0)):=(O.block _ (by omega)).trans ((oB g (by omega)).trans X);have m0:W'.cell? ⟨wr.heap.size,0,none⟩=some c0:=by rw[cell_of_row _ _ _ _ _ _ kC];rfl
    have m1:W'.cell? ⟨wr.heap.size,1,none⟩=some c1:=by rw[cell_of_row _ _ _ _ _ _ kC];rfl
    have m2:W'.cell? ⟨wr.heap.size,2,none⟩=some c2:=by rw[cell_of_row _ _ _ _ _ _ kC];rfl
    have m3:W'.cell? ⟨wr.heap.size,3,none⟩=some c3:=by rw[cell_of_row _ _ _ _ _ _ kC];rfl
    obtain⟨V1,f0,q0,r0⟩:=ca (P:=Tryz.prog) W' g (p*4) _ 61 c0 rC (by (try simp only[BU]);omega) o0;obtain⟨V2,f1,q1,r1⟩:=ca (P:=Tryz.prog) V1 g (p*4+1) _ 61 c1 q0 (by (try simp only[BU]);omega) o1;obtain⟨V3,f2,q2,r2⟩:=ca (P:=Tryz.prog) V2 g (p*4+2) _ 61 c2 q1 (by (try simp only[BU]);omega) o2;obtain⟨V4,f3,q3,r3⟩:=ca (P:=Tryz.prog) V3 g (p*4+3) _ 61 c3 q2 (by (try simp only[BU]);omega) o3;have qV:V4.heap[g]?=some (.cells (gu y (p*4) [c0,c1,c2,c3]) 61 (0,0)):=q3;have sV:gr g W' V4:=(((r0.trans r1).trans r2).trans r3);have E2:Aside (V4.heap[g]?=some (.cells (gu y (p*4) [c0,c1,c2,c3]) 61 (0,0))/\gr g W' V4/\Below W4.heap.size W4 W'):=⟨qV,sV,O⟩;clear qV sV O X a4 hR r kB sB szB oB Z b1 a3 I Y kC rC q0 q1 q2 q3 r0 r1 r2 r3 cφ
    go_wp2
    go_roundg (gk-1)
    case measure=>omega
    case rel =>
     obtain⟨X,a4,_,r,kB,sB,szB,oB,Z,b1,a3,I,Y⟩:=B.out;obtain⟨qV,sV,O⟩:=E2.out;have eg:=O.size;have ec:=sV.size;exact⟨p+1,j+1,by first|rfl|simp,by first|rfl|simp,by omega,by omega,D.out.2.keep X D.out.1 (sV.os.trans (O.os.trans sB.os)) (sV.tape.trans (O.tape.trans sB.tape)) (sV.output.trans (O.output.trans sB.output)) (by omega)
      (λk hk hn=>(sV.other k hn).trans ((O.block k (by omega)).trans (oB k hk))) hj I qV rfl r⟩
  ·have c4:j=n:=by omega
   subst c4;have d1:¬ ((j:Int)<(j:Int)):=by omega
   have dd:(0:Int)<=(p:Int):=by omega
   have cu:¬ (R=p):=by omega
   have e7:p<=j:=by omega
   have e5:p<=R:=by omega
   obtain⟨a7,dc,b4,ad⟩:=mO (P:=Tryz.prog) wr 27 61 b5 z Tryz.underlying27 hi a9 g (p*4) (j-p) (R-p) y 61 X (by omega) (by rw[a8];simp only[CD,B3,B4];rw[<- Nat.add_mul];have:(p+(j-p))*4<=R*4:=BV _ (by omega);omega) (by rw[a8];simp[CK]);have B:Aside (wr.heap[g]?=some (.cells y 61 (0,0))/\y.size=cur.size/\eq w g j 4 61 cur.size del flat p j wr/\y.toList.take (p*4)=fO 4 del flat j/\a7.size=y.size/\a7.toList.take (p*4)=y.toList.take (p*4)/\R<=maxLen/\R*4<=cur.size/\flat.length=j*4):=⟨X,a4,hR,b3,b4,ad,a1,a5,a6⟩;clear H a6 J hφ a2 a5 hg M a1 I Y a9 a8 hi X a4 b3 ba Z hR b4 ad
   go_wp2
   go_ret
   obtain⟨X,a4,hR,b3,b4,ad,a1,a5,a6⟩:=B.out;have cb:=pA (s:=4) (del:=del) (flat:=flat) (j:=j) (by omega);have b9:=hR.cnt;refine⟨.slice (some ⟨g,0,none⟩) p R,rfl,⟨cb,.inr ⟨g,R,a7,_,by rw[b9],setRow_heap wr g y a7 61 (0,0) X,by omega,.inl ⟨rfl,a1⟩,by omega,by rw[<- b9,ad,b3]⟩⟩,⟨hR.os,hR.tape,hR.output,by simpa using hR.size,λk hk hn=>(setRow_other wr g k a7 (λh=>hn (by rw[h]))).trans (hR.other k hk (λh=>hn (by rw[h])))⟩,rfl⟩
set_option maxHeartbeats 4000000 in
theorem del_none (w:World)(y I:Value)(u:Calls Tryz.prog 82 #[y,I] w λe H=>e=.returned (.int .i64 (-1))/\Below w.heap.size w H) :
  Calls Tryz.prog 173 #[y,I] w λe H=>e=.returned y/\Below w.heap.size w H:=by
 have mixed:Tryz.prog.follows .mixedOrders=true:=by kernel_rfl
 have J:∀ r w,(callFunc 82 r).run Tryz.prog w=.ok (.enter 82 r) w:=λr w=>ea Tryz.func82 (by kernel_rfl) rfl r w
 go_enter Tryz.func173,Tryz.ntmps173
 go_wp2_with (go_at_fn 82;refine u.mono ?_;rintro e W ⟨rfl,z⟩)
 go_ret
 exact⟨rfl,z⟩
theorem walk:rg Tryz.prog 173 82 61 4 where
 none_:=λw v0 fv n r _ h=>del_none w v0 fv h
 some_:=λw g n a0 r fi y a2 p0 J h1 ef hp hd hk hφ I=>by
  have q1:(Tryz.prog.info? 61).isSome=true:=by kernel_rfl
  have q2:((Tryz.prog.info? 61).bind λi=>i.zero).map (λz=>z.cells)=some #[Value.int IntKind.i64 0,Value.int IntKind.i64 0,Value.int IntKind.i64 0,Value.slice none 0 0]:=by kernel_rfl
  obtain⟨Z,hi⟩:=B6.1 q1;rw[hi]at q2;simp only[CG,B8]at q2;obtain⟨z,hz,R⟩:=q2;obtain⟨O,⟨M,_⟩|⟨g',a4,a1,mk,M,hg,X,Y,a3,u⟩⟩:=J
  ·cases M
  ·simp only[CE,CF,CL,and_true,true_and]at M;obtain⟨rfl,rfl⟩:=M;obtain⟨rfl,H⟩:=Y.elim id (λh=>absurd h.1 (by decide));exact del_walk w g n a0 a1 r Z z hi hz R hg H a3 u O h1 X fi y ef a2 p0 hp hd hk hφ I
end Q4
namespace Q9
set_option maxHeartbeats 4000000 in
theorem del_walk (w:World)(g n R:Nat)(cur:Array Value)(flat:List Value)(b5:TypeInfo)(z:Value)(hi:Tryz.prog.info? 126=some b5)(a9:b5.zero=some z)(a8:z.cells=#[Value.int IntKind.i64 0,Value.int IntKind.i64 0,Value.int IntKind.i64 0,Value.bool false,Value.int IntKind.i64 0])
  (hg:w.heap[g]?=some (.cells cur 126 (0,0))) (a2:R<=maxLen) (a5:R*5<=cur.size) (J:cur.toList.take (n*5)=flat) (a6:flat.length=n*5) (a1:∀ u∈flat,u.oneCell'=true) (cy:n<=R)
  (fi:Nat) (caps:Array Value) (ef:ge Tryz.prog fi) (del:Nat->Bool) (p0:Nat) (d2:p0<n) (M:del p0=true) (H:∀ j,j<p0->del j=false)
  (hφ:(∀ w1:World,w.heap.size<=w1.heap.size->(∀ k,k<w.heap.size->k≠g->w1.heap[k]?=w.heap[k]?)->∀ j,j<n->Calls Tryz.prog fi (#[.agg ((flat.drop (j*5)).take 5).toArray]++caps) w1 (λe w2=>e=.returned (.bool (del j))/\Below w1.heap.size w1 w2)))
  (cw:Calls Tryz.prog 161 #[.slice (some ⟨g,0,none⟩) n R,.func (.func fi) #[] caps] w λe w'=>e=.returned (.int .i64 p0)/\Below w.heap.size w w') :
  Calls Tryz.prog 246 #[.slice (some ⟨g,0,none⟩) n R,.func (.func fi) #[] caps] w λe w'=>∃ v',e=.returned v'/\Row w' 126 5 v' (dI del n) (fO 5 del flat n)/\w.grownBy w' (some g)/\v'.ownBlock=some g:=by
 have dd:R<=9223372036854775807:=by simp only[maxLen]at a2;omega
 have hz:¬ ((p0:Int)=-1):=by omega
 have mixed:Tryz.prog.follows .mixedOrders=true:=by kernel_rfl
 have f5:IntKind.i64.wrap ((p0:Int)+1)=((p0+1:Nat):Int):=by rw[BY];omega
 have eI:∀ a0 w,(callFunc 161 a0).run Tryz.prog w=.ok (.enter 161 a0) w:=λa0 w=>ea Tryz.func161 (by kernel_rfl) rfl a0 w
 have ev:∀ a0 w,(callFunc fi a0).run Tryz.prog w=.ok (.enter fi a0) w:=ef;have Y:g<w.heap.size:=(B5.1 hg).1;have I:n*5<=cur.size:=Nat.le_trans (BV _ cy) a5;have A:Aside ((∀ j,j<p0->del j=false)/\flat.length=n*5/\cur.toList.take (n*5)=flat/\(∀ w1:World,w.heap.size<=w1.heap.size->(∀ k,k<w.heap.size->k≠g->w1.heap[k]?=w.heap[k]?)->∀ j,j<n->Calls Tryz.prog fi (#[.agg ((flat.drop (j*5)).take 5).toArray]++caps) w1 (λe w2=>e=.returned (.bool (del j))/\Below w1.heap.size w1 w2))/\(∀ u∈flat,u.oneCell'=true)/\R*5<=cur.size/\w.heap[g]?=some (.cells cur 126 (0,0))/\del p0=true/\R<=maxLen/\n*5<=cur.size/\g<w.heap.size/\b5.zero=some z/\z.cells=#[Value.int IntKind.i64 0,Value.int IntKind.i64 0,Value.int IntKind.i64 0,Value.bool false,Value.int IntKind.i64 0]/\Tryz.prog.info? 126=some b5):=⟨H,a6,J,hφ,a1,a5,hg,M,a2,I,Y,a9,a8,hi⟩;clear H a6 J hφ a1 a5 hg M a2 I Y a9 a8 hi
 go_enter Tryz.func246,Tryz.ntmps246
 go_wp2_with (go_at_fn 161;refine cw.mono ?_;rintro e W ⟨rfl,b0⟩)
 go_loopg [5,6] n (λk s5 s6 wx=>∃ p j:Nat,s5=.int .i64 p/\s6=.int .i64 j/\j<=n/\n<=j+k/\eq w g n 5 126 cur.size del flat p j wx)
 case atStart =>
  obtain⟨H,a6,J,hφ,a1,a5,hg,M,a2,I,Y,a9,a8,hi⟩:=A.out;have e7:(p0+1)*5<=n*5:=BV _ d2;have hk:=pz (s:=5) (flat:=flat) H (by omega);refine⟨p0,p0+1,rfl,by first|rfl|simp,by omega,by omega,b0.os,b0.tape,b0.output,b0.size,λk hk _=>b0.block k hk,⟨cur,(b0.block g Y).trans hg,rfl,?_,λt _ ht=>?_⟩,?_,by omega⟩
  ·simp only[fO,M,if_true,CH];rw[hk.1,<- J,CJ,CI (by omega)]
  ·rw[<- J,BZ,if_pos ht,B9]
  ·simp only[dI,M,if_true,B7,hk.2]
 case round =>
  obtain⟨p,j,rfl,rfl,en,ed,hR⟩:=hrel;obtain⟨H,a6,J,hφ,a1,a5,hg,M,a2,I,Y,a9,a8,hi⟩:=A.out;obtain⟨y,X,a4,b3,ba⟩:=hR.row;have d1:=hR.lt;have Z:=hR.size;by_cases hj:j<n
  ·have d3:(j:Int)<(n:Int):=by omega
   have b1:(j+1)*5<=n*5:=BV _ hj;have a3:(p+1)*5<=j*5:=BV _ d1;have hc:∀ t,t<5->∃ u,wr.cell? ⟨g,j*5+t,none⟩=some u/\flat[j*5+t]?=some u:=λt ht =>
    ⟨y[j*5+t]'(by omega),by rw[cell_of_row wr g _ y 126 (0,0) X];exact BX (by omega),by rw[<- ba _ (by omega) (by omega)];exact BX (by omega)⟩
   obtain⟨c0,dc,bl⟩:=hc 0 (by omega);obtain⟨c1,f6,cb⟩:=hc 1 (by omega);obtain⟨c2,ej,cu⟩:=hc 2 (by omega);obtain⟨c3,ex,bn⟩:=hc 3 (by omega);obtain⟨c4,eb,bx⟩:=hc 4 (by omega);rw[B7]at dc;have o0:=a1 c0 (BW bl);have o1:=a1 c1 (BW cb);have o2:=a1 c2 (BW cu);have o3:=a1 c3 (BW bn);have o4:=a1 c4 (BW bx);have r:(flat.drop (j*5)).take 5=[c0,c1,c2,c3,c4]:=by
    refine CC λi=>?_
    rw[BZ];split
    ·rename_i hi;rw[CB];rcases i with _|(_|(_|(_|(_|_))));all_goals first|assumption|omega
    ·rename_i hi;exact (CA (by simp only[B3,B4];omega)).symm
   have bb:(wr.alloc (.cells #[Value.int IntKind.i64 0,Value.int IntKind.i64 0,Value.int IntKind.i64 0,Value.bool false,Value.int IntKind.i64 0] 126)).heap[wr.heap.size]?=some (.cells #[Value.int IntKind.i64 0,Value.int IntKind.i64 0,Value.int IntKind.i64 0,Value.bool false,Value.int IntKind.i64 0] 126 (0,0)):=heap_alloc_new wr _;obtain⟨W1,e0,k0,s0⟩:=ca (P:=Tryz.prog) (wr.alloc (.cells #[Value.int IntKind.i64 0,Value.int IntKind.i64 0,Value.int IntKind.i64 0,Value.bool false,Value.int IntKind.i64 0] 126)) wr.heap.size 0 _ 126 c0 bb (by simp) o0;obtain⟨W2,e1,k1,s1⟩:=ca (P:=Tryz.prog) W1 wr.heap.size 1 _ 126 c1 k0 (by simp) o1;obtain⟨W3,e2,k2,s2⟩:=ca (P:=Tryz.prog) W2 wr.heap.size 2 _ 126 c2 k1 (by simp) o2;obtain⟨W4,e3,k3,s3⟩:=ca (P:=Tryz.prog) W3 wr.heap.size 3 _ 126 c3 k2 (by simp) o3;obtain⟨W5,e4,k4,s4⟩:=ca (P:=Tryz.prog) W4 wr.heap.size 4 _ 126 c4 k3 (by simp) o4;have kB:W5.heap[wr.heap.size]?=some (.cells #[c0,c1,c2,c3,c4] 126 (0,0)):=k4;have sB:gr wr.heap.size (wr.alloc (.cells #[Value.int IntKind.i64 0,Value.int IntKind.i64 0,Value.int IntKind.i64 0,Value.bool false,Value.int IntKind.i64 0] 126)) W5:=((((s0.trans s1).trans s2).trans s3).trans s4);have szB:W5.heap.size=wr.heap.size+1:=by rw[sB.size];simp
   have oB:∀ k,k<wr.heap.size->W5.heap[k]?=wr.heap[k]?:=λk hk=>(sB.other k (by omega)).trans (Go.heap_alloc_old wr _ hk)
   have l0:W5.cell? ⟨wr.heap.size,0,none⟩=some c0:=by rw[cell_of_row _ _ _ _ _ _ kB];rfl
   have l1:W5.cell? ⟨wr.heap.size,1,none⟩=some c1:=by rw[cell_of_row _ _ _ _ _ _ kB];rfl
   have l2:W5.cell? ⟨wr.heap.size,2,none⟩=some c2:=by rw[cell_of_row _ _ _ _ _ _ kB];rfl
   have l3:W5.cell? ⟨wr.heap.size,3,none⟩=some c3:=by rw[cell_of_row _ _ _ _ _ _ kB];rfl
   have l4:W5.cell? ⟨wr.heap.size,4,none⟩=some c4:=by rw[cell_of_row _ _ _ _ _ _ kB];rfl
   have cφ:=hφ W5 (by omega) (λk hk hn=>(oB k (by omega)).trans (hR.other k hk hn)) j hj;rw[r]at cφ;have et:IntKind.i64.wrap ((j:Int)+1)=((j+1:Nat):Int):=by rw[BY];omega
   have f7:IntKind.i64.wrap ((p:Int)+1)=((p+1:Nat):Int):=by rw[BY];omega
   have cx:(p:Int)<(n:Int):=by omega
   have B:Aside (wr.heap[g]?=some (.cells y 126 (0,0))/\y.size=cur.size/\eq w g n 5 126 cur.size del flat p j wr/\(flat.drop (j*5)).take 5=[c0,c1,c2,c3,c4]/\W5.heap[wr.heap.size]?=some (.cells #[c0,c1,c2,c3,c4] 126 (0,0))/\gr wr.heap.size (wr.alloc (.cells #[Value.int IntKind.i64 0,Value.int IntKind.i64 0,Value.int IntKind.i64 0,Value.bool false,Value.int IntKind.i64 0] 126)) W5/\W5.heap.size=wr.heap.size+1/\(∀ k,k<wr.heap.size->W5.heap[k]?=wr.heap[k]?)/\w.heap.size<=wr.heap.size/\(j+1)*5<=n*5/\(p+1)*5<=j*5/\n*5<=cur.size/\g<w.heap.size):=⟨X,a4,hR,r,kB,sB,szB,oB,Z,b1,a3,I,Y⟩;clear H a6 J hφ a1 a5 hg M a2 I Y a9 a8 hi X a4 b3 ba Z b1 a3 hc r bb kB sB szB oB k0 k1 k2 k3 k4 s0 s1 s2 s3 s4 bl cb cu bn bx;cases b2:del j with
   |true =>
    rw[b2]at cφ;have D:Aside (del j=true/\eq w g n 5 126 cur.size del flat p j wr):=⟨b2,hR⟩;clear b2 hR
    go_wp2
    refine cφ.mono ?_;rintro e W' ⟨rfl,O⟩
    go_wp2
    go_roundg (gk-1)
    case measure=>omega
    case rel =>
     obtain⟨X,a4,_,r,kB,sB,szB,oB,Z,b1,a3,I,Y⟩:=B.out;exact⟨p,j+1,by first|rfl|simp,by first|rfl|simp,by omega,by omega,D.out.2.skip D.out.1 (O.os.trans sB.os) (O.tape.trans sB.tape) (O.output.trans sB.output) (by have:=O.size;omega) (λk hk=>(O.block k (by omega)).trans (oB k hk)) Y⟩
   |false =>
    rw[b2]at cφ;have D:Aside (del j=false/\eq w g n 5 126 cur.size del flat p j wr):=⟨b2,hR⟩;clear b2 hR
    go_wp2
    refine cφ.mono ?_;rintro e W' ⟨rfl,O⟩;obtain⟨X,a4,hR,r,kB,sB,szB,oB,Z,b1,a3,I,Y⟩:=B.out;have kC:W'.heap[wr.heap.size]?=some (.cells #[c0,c1,c2,c3,c4] 126 (0,0)):=(O.block _ (by omega)).trans kB;have rC:W'.heap[g]?=some (.cells y 126 (0,0)):=(O.block _ (by omega)).trans ((oB g (by omega)).trans X);have m0:W'.cell? ⟨wr.heap.size,0,none⟩=some c0:=by rw[cell_of_row _ _ _ _ _ _ kC];rfl
    have m1:W'.cell? ⟨wr.heap.size,1,none⟩=some c1:=by rw[cell_of_row _ _ _ _ _ _ kC];rfl
    have m2:W'.cell? ⟨wr.heap.size,2,none⟩=some c2:=by rw[cell_of_row _ _ _ _ _ _ kC];rfl
    have m3:W'.cell? ⟨wr.heap.size,3,none⟩=some c3:=by rw[cell_of_row _ _ _ _ _ _ kC];rfl
    have m4:W'.cell? ⟨wr.heap.size,4,none⟩=some c4:=by rw[cell_of_row _ _ _ _ _ _ kC];rfl
    obtain⟨V1,f0,q0,r0⟩:=ca (P:=Tryz.prog) W' g (p*5) _ 126 c0 rC (by (try simp only[BU]);omega) o0;obtain⟨V2,f1,q1,r1⟩:=ca (P:=Tryz.prog) V1 g (p*5+1) _ 126 c1 q0 (by (try simp only[BU]);omega) o1;obtain⟨V3,f2,q2,r2⟩:=ca (P:=Tryz.prog) V2 g (p*5+2) _ 126 c2 q1 (by (try simp only[BU]);omega) o2;obtain⟨V4,f3,q3,r3⟩:=ca (P:=Tryz.prog) V3 g (p*5+3) _ 126 c3 q2 (by (try simp only[BU]);omega) o3;obtain⟨V5,f4,q4,r4⟩:=ca (P:=Tryz.prog) V4 g (p*5+4) _ 126 c4 q3 (by (try simp only[BU]);omega) o4;have qV:V5.heap[g]?=some (.cells (gu y (p*5) [c0,c1,c2,c3,c4]) 126 (0,0)):=q4;have sV:gr g W' V5:=((((r0.trans r1).trans r2).trans r3).trans r4);have E2:Aside (V5.heap[g]?=some (.cells (gu y (p*5) [c0,c1,c2,c3,c4]) 126 (0,0))/\gr g W' V5/\Below W5.heap.size W5 W'):=⟨qV,sV,O⟩;clear qV sV O X a4 hR r kB sB szB oB Z b1 a3 I Y kC rC q0 q1 q2 q3 q4 r0 r1 r2 r3 r4 cφ
    go_wp2
    go_roundg (gk-1)
    case measure=>omega
    case rel =>
     obtain⟨X,a4,_,r,kB,sB,szB,oB,Z,b1,a3,I,Y⟩:=B.out;obtain⟨qV,sV,O⟩:=E2.out;have es:=O.size;have em:=sV.size;exact⟨p+1,j+1,by first|rfl|simp,by first|rfl|simp,by omega,by omega,D.out.2.keep X D.out.1 (sV.os.trans (O.os.trans sB.os)) (sV.tape.trans (O.tape.trans sB.tape)) (sV.output.trans (O.output.trans sB.output)) (by omega)
      (λk hk hn=>(sV.other k hn).trans ((O.block k (by omega)).trans (oB k hk))) hj I qV rfl r⟩
  ·have cc:j=n:=by omega
   subst cc;have d3:¬ ((j:Int)<(j:Int)):=by omega
   have e6:(0:Int)<=(p:Int):=by omega
   have cx:¬ (R=p):=by omega
   have eg:p<=j:=by omega
   have ec:p<=R:=by omega
   obtain⟨a7,e5,b4,ad⟩:=mO (P:=Tryz.prog) wr 24 126 b5 z Tryz.underlying24 hi a9 g (p*5) (j-p) (R-p) y 126 X (by omega) (by rw[a8];simp only[CD,B3,B4];rw[<- Nat.add_mul];have:(p+(j-p))*5<=R*5:=BV _ (by omega);omega) (by rw[a8];simp[CK]);have B:Aside (wr.heap[g]?=some (.cells y 126 (0,0))/\y.size=cur.size/\eq w g j 5 126 cur.size del flat p j wr/\y.toList.take (p*5)=fO 5 del flat j/\a7.size=y.size/\a7.toList.take (p*5)=y.toList.take (p*5)/\R<=maxLen/\R*5<=cur.size/\flat.length=j*5):=⟨X,a4,hR,b3,b4,ad,a2,a5,a6⟩;clear H a6 J hφ a1 a5 hg M a2 I Y a9 a8 hi X a4 b3 ba Z hR b4 ad
   go_wp2
   go_ret
   obtain⟨X,a4,hR,b3,b4,ad,a2,a5,a6⟩:=B.out;have cp:=pA (s:=5) (del:=del) (flat:=flat) (j:=j) (by omega);have b9:=hR.cnt;refine⟨.slice (some ⟨g,0,none⟩) p R,rfl,⟨cp,.inr ⟨g,R,a7,_,by rw[b9],setRow_heap wr g y a7 126 (0,0) X,by omega,.inl ⟨rfl,a2⟩,by omega,by rw[<- b9,ad,b3]⟩⟩,⟨hR.os,hR.tape,hR.output,by simpa using hR.size,λk hk hn=>(setRow_other wr g k a7 (λh=>hn (by rw[h]))).trans (hR.other k hk (λh=>hn (by rw[h])))⟩,rfl⟩
set_option maxHeartbeats 4000000 in
theorem del_none (w:World)(y I:Value)(u:Calls Tryz.prog 161 #[y,I] w λe H=>e=.returned (.int .i64 (-1))/\Below w.heap.size w H) :
  Calls Tryz.prog 246 #[y,I] w λe H=>e=.returned y/\Below w.heap.size w H:=by
 have mixed:Tryz.prog.follows .mixedOrders=true:=by kernel_rfl
 have J:∀ r w,(callFunc 161 r).run Tryz.prog w=.ok (.enter 161 r) w:=λr w=>ea Tryz.func161 (by kernel_rfl) rfl r w
 go_enter Tryz.func246,Tryz.ntmps246
 go_wp2_with (go_at_fn 161;refine u.mono ?_;rintro e W ⟨rfl,z⟩)
 go_ret
 exact⟨rfl,z⟩
theorem walk:rg Tryz.prog 246 161 126 5 where
 none_:=λw v0 fv n r _ h=>del_none w v0 fv h
 some_:=λw g n a0 r fi y a2 p0 J h1 ef hp hd hk hφ I=>by
  have q1:(Tryz.prog.info? 126).isSome=true:=by kernel_rfl
  have q2:((Tryz.prog.info? 126).bind λi=>i.zero).map (λz=>z.cells)=some #[Value.int IntKind.i64 0,Value.int IntKind.i64 0,Value.int IntKind.i64 0,Value.bool false,Value.int IntKind.i64 0]:=by kernel_rfl
  obtain⟨Z,hi⟩:=B6.1 q1;rw[hi]at q2;simp only[CG,B8]at q2;obtain⟨z,hz,R⟩:=q2;obtain⟨O,⟨M,_⟩|⟨g',a4,a1,mk,M,hg,X,Y,a3,u⟩⟩:=J
  ·cases M
  ·simp only[CE,CF,CL,and_true,true_and]at M;obtain⟨rfl,rfl⟩:=M;obtain⟨rfl,H⟩:=Y.elim id (λh=>absurd h.1 (by decide));exact del_walk w g n a0 a1 r Z z hi hz R hg H a3 u O h1 X fi y ef a2 p0 hp hd hk hφ I
end Q9
end Go.Proofs.YtaegajachoklkaaGreatEv
