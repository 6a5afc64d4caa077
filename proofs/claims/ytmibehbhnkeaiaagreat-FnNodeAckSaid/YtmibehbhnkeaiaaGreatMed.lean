/- The middle one of at most three: impl.CoordMedian. Tryz: the program, 248: slices.Sorted, 287: slices.Sort, 291: slices.Collect, 249: slices.Values, 292: its closure, 182: impl.CoordMedian. -/
import Derived.Test.YtmibehbhnkeaiaaGreatVal
import Derived.Test.YtmibehbhnkeaiaaGreatCol
import Derived.Test.YtmibehbhnkeaiaaGreatEvQ
set_option linter.unusedVariables false
set_option linter.unusedVariables false
set_option linter.unusedSimpArgs false
open Go.Value renaming ownBlock->FR
open List renaming length_cons->FJ,length_nil->FK,getElem?_eq_getElem->FL,size_toArray->FM,cons_append->FN,length->FP,nil_append->FQ
open Nat renaming le_refl->FO
namespace Go.Proofs.YtmibehbhnkeaiaaGreatEv
open Go Go.Proofs Go.RowKit Go.Shelf Go.Maps
def vq (P:Program)(f:FuncId)(den:List Int->Option (List Int)):Prop :=
 ∀ (w:World) (v:Value) (u y:List Int),Row w 3 1 v u.length (u.map eu)->den u=some y ->
  Calls P f #[v] w λe r=>e=.returned (.tuple #[])/\Row r 3 1 v y.length (y.map eu)/\w.heap.size<=r.heap.size/\r.os=w.os/\r.tape=w.tape/\r.output=w.output/\∀ k,k<w.heap.size->k∉v.ownBlock.toList->r.heap[k]?=w.heap[k]?
theorem vr {w:World}{G:Nat->Prop}:∀ xs:List Int,Els w G (.int .i64) xs (xs.map eu) []
 |[]=>⟨rfl,rfl⟩
 |x::xs=>⟨[.int .i64 x],[],_,[],rfl,rfl,⟨rfl,rfl⟩,vr xs⟩
theorem vt {w:World}{G:Nat->Prop}:∀ {xs:List Int} {f:List Value} {B:List Nat},Els w G (.int .i64) xs f B->f=xs.map eu/\B=[]
 |[],_,_,h=>h
 |x::xs,_,_,⟨c,b,f,B,r,u,⟨y,z⟩,H⟩=>by
  obtain⟨I,J⟩:=vt H;subst y z I J;exact⟨r,u⟩
theorem Da {P:Program}{f:FuncId}{H:Bool}{den:ab [.io (.list true 3 (.int .i64))]->Option (ai []×ag [.io (.list true 3 (.int .i64))])}
  (h:bI P ⟨f,[.io (.list true 3 (.int .i64))],[],H,den⟩):vq P f (λM=>(den (M,())).map λy=>y.2.1):=by
 intro w v M ys hr hd;obtain⟨y,hy,rfl⟩:=Option.map_eq_some_iff.1 hd;refine (h.2 w (λ_=>False) (M,()) [v] [v.ownBlock.toList] y ⟨v,[],_,[],rfl,rfl,⟨[v],rfl,?_⟩,rfl,rfl⟩ (by simp) ?_ hy).mono ?_
 ·rw[bF (by simp)];exact⟨v,rfl,by simpa using sg hr (vr M)⟩
 ·cases v.ownBlock <;> simp
 ·rintro e w' ⟨u,us,N,a0,a4,rfl,z,hs,Z,ht,ho,hk,hN,I,J,a3,a2⟩;obtain⟨rfl,rfl⟩:=J;have z:u=.tuple #[]:=z;subst z
  match a0,I with
  |[b],⟨⟨cs,O,h2⟩,_⟩ =>
   have O:cs=[v]:=O;subst O;rw[bF (by simp)]at h2;obtain⟨u,e,h3⟩:=h2;cases e;obtain⟨a1,B,r,_,R⟩:=pe h3;obtain⟨rfl,_⟩:=vt R;exact⟨rfl,r,hs,Z,ht,ho,λk X Y=>hk k X (by simpa using Y)⟩
theorem Ck {w w':World}{v:Value}{n m:Nat}{f g:List Value}(h:Row w 3 1 v n f)(h':Row w' 3 1 v m g):n=m:=by
 rcases h.2 with ⟨rfl,rfl⟩|⟨b,r,u,mk,rfl,_⟩
 ·rcases h'.2 with ⟨_,rfl⟩|⟨b,r,u,mk,e,_⟩
  ·rfl
  ·cases e
 ·rcases h'.2 with ⟨e,_⟩|⟨I,y,z,H,e,_⟩
  ·cases e
  ·cases e;rfl
theorem SeqStopsK.weak {α:Type}{F:Fence}{n:Nat}{P:Program}{g:Nat}{z:Array Value}{r:α->Array Value}{y:World->World->Prop}{S Sp u:List α->Prop}{N:Nat}{w:World}(h:SeqStopsK F n P g z r y S Sp N w)(X:∀ x,Sp x->u x) :
 SeqStopsK F n P g z r y S u N w:=λl J H W a b c d e=>(h l J H W a b c d e).mono λ_ _ ⟨I,M⟩=>⟨I,M.imp id λ⟨p,O,R⟩=>⟨p,X p O,R⟩⟩
theorem yc {w W:World}{v:Value}{r:List Int}(h:W.ownsRow w.heap.size 3 1 v r.length (r.map eu)):Row W 3 1 v r.length (r.map eu)/\∀ k∈v.ownBlock.toList,w.heap.size<=k:=by
 refine⟨Row.of h,λk y=>?_⟩;rcases h.2 with ⟨rfl,_⟩|⟨g,z,H,rfl,u,_⟩
 ·simp[FR]at y
 ·simp[FR]at y;omega
set_option maxRecDepth 100000 in
set_option maxHeartbeats 2000000 in
theorem zN (n:Nat)(hn:4<=n){den:List Int->Option (List Int)}(hsort:vq Tryz.prog 287 den)(g:Nat)(lb:Array Value)(eg:∀ args w,(callFunc g args).run Tryz.prog w=.ok (.enter g args) w)
  (zs ys:List Int) (hd:den zs=some ys) (N:Nat) (hN:N<=maxLen) (hNb:N*8<=140737488355328) (w:World) (hseq:SeqStopsK Fence.wide (n-1-1-1) Tryz.prog g lb (λx:Int=>#[eu x]) (Below w.heap.size) (λss=>ss=zs) (λ_=>True) N w) :
  CallsIn Fence.wide n Tryz.prog 248 #[.func (.func g) #[] lb] w λe w'=>∃ v,e=.returned v/\ys.length=zs.length/\Row w' 3 1 v ys.length (ys.map eu)/\Below w.heap.size w w':=by
 have h1:1<=n:=by omega
 have w1:Fence.wide.fn 291:=trivial;have w2:Fence.wide.fn 287:=trivial;refine callsIn_of_wp Tryz.func248 rfl trivial ?_ rfl;simp only[Tryz.ntmps248,FM,FJ,FK,Nat.reduceAdd,Nat.reduceSub,Array.replicate_succ,Array.replicate_zero,List.push_toArray,List.append_toArray,FQ,FN]
 gi_wp2_with (gi_at_call 291;refine (yb Fence.wide (n-1) trivial trivial rfl (by omega) g lb trivial eg _ N hN hNb _ hseq).mono ?_;rintro e W ⟨v,ss,rfl,hS,hrow,hnil,hb⟩;have r0:W.ownsRow w.heap.size 3 1 v zs.length (zs.map eu):=(by rw[show ss=zs from hS]at hrow;exact hrow);clear hnil hS hrow ss;obtain⟨r1,hvb⟩:=yc r0;clear r0)
 gi_wp2_with (gi_at_call 287;refine (callsIn_wide.2 (hsort W v zs ys r1 hd)).mono ?_;rintro e w' ⟨rfl,hr,hs,ho,ht,hu,hk⟩)
 go_ret
 exact⟨v,rfl,Ck hr r1,hr,hb.trans ⟨ho,ht,hu,hs,λk hk1=>hk k (by have:=hb.size;omega) λhk2=>by have:=hvb k hk2;omega⟩⟩
theorem qv {w:World}{v:Value}{y:Int}{r:List Int}(h:Row w 3 1 v (y::r).length ((y::r).map eu)):∃ g u,v=.slice (some ⟨g,0,none⟩) (y::r).length u/\∀ j,j<(y::r).length->w.cell? ⟨g,j,none⟩=some (.int .i64 ((y::r)[j]?.getD 0)):=by
 rcases h.2 with ⟨_,I⟩|⟨g,u,z,mk,rfl,O,X,Y,Z,J⟩
 ·simp at I
 ·refine⟨g,u,rfl,λj R=>?_⟩;have M:z.toList[j]?=some (.int .i64 ((y::r)[j]?.getD 0)):=by
   have H:(z.toList.take ((y::r).length*1))[j]?=some (.int .i64 ((y::r)[j]?.getD 0)):=by
    rw[J,List.getElem?_map,FL R];rfl
   rw[List.getElem?_take_of_lt (by omega)]at H;exact H
  rw[cell_of_row w g j z 3 mk O];simpa using M
def wP (P:Program)(f:FuncId)(den:List Int->Option (List Int)):Prop :=
 ∀ (w:World) (A:Option Addr) (u:Nat) (r y:List Int),r.length<=3->r.length<=u->(0<r.length->∃ g o,A=some ⟨g,o,none⟩/\g<w.heap.size/\∀ j,j<r.length->w.cell? ⟨g,o+j,none⟩=some (.int .i64 (r[j]?.getD 0)))->den r=some y ->
  Calls P f #[.slice A r.length u] w λe z=>e=.returned (.int .i64 (y.getD ((y.length-1) / 2) 0))/\Below w.heap.size w z
theorem AT (w:World)(A:Option Addr)(r:Nat)(u:List Int)(N:Nat)(H:u.length=N)(R:N<=3)(z:0<u.length->∃ g o,A=some ⟨g,o,none⟩/\g<w.heap.size/\∀ j,j<u.length->w.cell? ⟨g,o+j,none⟩=some (.int .i64 (u[j]?.getD 0)))(n:Nat)(M:1<=n) :
  SeqStopsK Fence.wide n Tryz.prog 292 #[.pointer (some ⟨w.heap.size,0,none⟩)] (λx:Int=>#[eu x]) (Below (w.alloc (.cells #[.slice A N r] 67)).heap.size) (λO=>O=u) (λ_=>True) N (w.alloc (.cells #[.slice A N r] 67)):=by
 subst H;have y:(w.alloc (.cells #[.slice A u.length r] 67)).cell? ⟨w.heap.size,0,none⟩=some (.slice A u.length r):=by
  have:=cell_one_new w (.slice A u.length r) 67 0 _ rfl
  rwa [Addr.add_lit]at this
 refine SeqStopsK.weak (Sp:=λpre=>pre <+: u) (vm Fence.wide n trivial rfl M w.heap.size _ (.slice A u.length r) u (by omega) (w.alloc (.cells #[.slice A u.length r] 67)) (by simp) (FO _) y ⟨A,r,rfl,λh=>?_⟩) λ_ _=>trivial
 obtain⟨g,o,e,I,y⟩:=z h;exact⟨g,o,e,by simp;omega,λj J=>((Below.refl w.heap.size w).alloc (FO _) _).cell (p:=⟨g,o+j,none⟩) I |>.trans (y j J)⟩
set_option maxRecDepth 100000 in
set_option maxHeartbeats 4000000 in
theorem AU {den:List Int->Option (List Int)}(hsort:vq Tryz.prog 287 den):wP Tryz.prog 182 den:=by
 intro w A cap xs ys hx hc hA hd;refine (callsIn_wide (n:=8)).1 ?_;have h8:1<=8:=by omega
 have w1:Fence.wide.fn 249:=trivial;have w2:Fence.wide.fn 248:=trivial;refine callsIn_of_wp Tryz.func182 rfl trivial ?_ rfl;simp only[Tryz.ntmps182,FM,FJ,FK,Nat.reduceAdd,Nat.reduceSub,Array.replicate_succ,Array.replicate_zero,List.push_toArray,List.append_toArray,FQ,FN];obtain⟨n,hn⟩:∃ n,xs.length=n:=⟨_,rfl⟩;have hseq:=AT w A cap xs n hn (by omega) hA 4 (by omega);rw[hn]at hx hc ⊢;clear hA;have hn4:n=0\/n=1\/n=2\/n=3:=by omega
 rcases hn4 with rfl|rfl|rfl|rfl;all_goals
  gi_wp2_with (first
   |(gi_at_call 249;refine (zL Fence.wide 7 trivial rfl _ _ _ _).mono ?_;rintro e w' ⟨rfl,rfl⟩)
   |(gi_at_call 248;refine (zN 7 (by omega) hsort 292 _ (enters_of Tryz.func292 (by kernel_rfl) rfl) xs ys hd _ (by decide) (by decide) _ hseq).mono ?_;rintro e w' ⟨v,rfl,hl,hr,hb⟩))
 all_goals
  have hB:=((Below.refl w.heap.size w).alloc (FO _) (.cells #[.slice A _ cap] 67)).trans (hb.mono (by simp));rw[hn]at hl;clear hseq hb hsort hd hn hx hc
 ·obtain rfl:ys=[]:=List.eq_nil_of_length_eq_zero hl;obtain⟨A',cap',rfl,_⟩:=hr.slice;simp only[FJ,FK,Nat.reduceAdd]
  go_simp
  gi_wp2
  go_ret
  exact⟨rfl,hB⟩
 ·obtain⟨y,rfl⟩:∃ y,ys=[y]:=List.length_eq_one_iff.1 hl;obtain⟨g,cap',rfl,hcell⟩:=qv hr;have c0:w'.cell? ⟨g,0,none⟩=some (.int .i64 y):=hcell 0 (by simp);clear hcell hr;simp only[FJ,FK,Nat.reduceAdd]
  go_simp
  gi_wp2
  go_ret
  rw[show [y].getD (([y].length-1) / 2) 0=y by simp];exact⟨rfl,hB⟩
 ·obtain⟨y,z,rfl⟩:∃ y z,ys=[y,z]:=by match ys,hl with|[y,z],_=>exact⟨y,z,rfl⟩
  obtain⟨g,cap',rfl,hcell⟩:=qv hr;have c0:w'.cell? ⟨g,0,none⟩=some (.int .i64 y):=hcell 0 (by simp);clear hcell hr;simp only[FJ,FK,Nat.reduceAdd]
  go_simp
  gi_wp2
  go_ret
  rw[show [y,z].getD (([y,z].length-1) / 2) 0=y by simp];exact⟨rfl,hB⟩
 ·obtain⟨y,z,u,rfl⟩:∃ y z u,ys=[y,z,u]:=by match ys,hl with|[y,z,u],_=>exact⟨y,z,u,rfl⟩
  obtain⟨g,cap',rfl,hcell⟩:=qv hr;have c0:w'.cell? ⟨g,1,none⟩=some (.int .i64 z):=hcell 1 (by simp);clear hcell hr;simp only[FJ,FK,Nat.reduceAdd]
  go_simp
  gi_wp2
  go_ret
  rw[show [y,z,u].getD (([y,z,u].length-1) / 2) 0=z by simp];exact⟨rfl,hB⟩
theorem vu {P:Program}{f:FuncId}(hE:fR P f){den:List Int->Option (List Int)}(hw:wP P f den) :
  bI P ⟨f,[.rd (.list false 3 (.int .i64))],[.v (.int .i64)],true,λx=>bif decide (FP x.1<=3) then (den x.1).bind λH=>some ((H.getD ((H.length-1) / 2) 0,()),()) else none⟩:=by
 refine⟨hE,?_⟩;intro w ro x vs a1 y u X a2 r;obtain⟨z,_⟩:=x;obtain⟨v,a3,b,a0,rfl,rfl,⟨rfl,cs,O,h2⟩,rfl,rfl⟩:=u;have O:cs=[v]:=O;subst O;obtain⟨A,M,e,hc,hA⟩:=h2;simp only[List.cons.injEq,and_true]at e;subst e;have r:(bif decide (FP z<=3) then (den z).bind λH=>some ((H.getD ((H.length-1) / 2) 0,()),()) else none)=some y:=r;cases Y:decide (FP z<=3) with
 |false=>rw[Y]at r;cases r
 |true =>
  rw[Y]at r;cases Z:den z with
  |none=>rw[Z]at r;cases r
  |some H =>
   rw[Z]at r;simp only[cond_true,Option.bind_some,Option.some.injEq]at r;subst r;refine (hw w A M z H (of_decide_eq_true Y) hc (λh=>?_) Z).mono ?_
   ·obtain⟨g,o,e,hg,hj⟩:=hA h;refine⟨g,o,e,(X g hg).1,λj J=>?_⟩;obtain⟨c,R,h4⟩:=hj j z[j] (FL J);have R:c=[.int .i64 z[j]]:=R;subst R;have:=h4 0 _ rfl;rw[FL J];simpa[Ty.cells]using this
   ·rintro e w' ⟨rfl,I⟩;refine⟨_,[_],λ_=>False,[[]],[[]],rfl,rfl,I.size,I.os,I.tape,I.output,λk hk _=>I.block k hk,λ_ h=>h.elim,⟨rfl,trivial⟩,⟨_,[],_,[],rfl,rfl,⟨[_],rfl,rfl,rfl⟩,rfl,rfl⟩,by simp,by simp⟩
end Go.Proofs.YtmibehbhnkeaiaaGreatEv
