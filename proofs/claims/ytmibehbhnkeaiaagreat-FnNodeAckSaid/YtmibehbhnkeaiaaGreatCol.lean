/- slices.Collect at ints, turned from the kit's worked text GgCollectAtTheDump. Tryz: the program, 291: slices.Collect, 321: slices.AppendSeq, 67: the type []int. -/
import Derived.Test.YtmibehbhnkeaiaaGreatProg
import Derived.RangeFuncGives
import Derived.RangeFuncKeeps
import Derived.RangeFuncBox
import Derived.RangeFuncLeaves
import Derived.WalkKit
import Derived.OwnWalkIn
import Derived.TacticsInMore
import Derived.LoopNIn
import Derived.LoopIn
import Derived.Maps.AppendAt
import Derived.Shelf.Abstract
import Derived.Below
import Derived.Maps.RangeWalk
set_option linter.unusedVariables false
set_option linter.unusedVariables false
set_option linter.unusedSimpArgs false
open Array renaming getElem?_eq_some_iff->FJ
open Go.Value renaming ownBlock->FK
open List renaming size_toArray->FL,length_cons->FM,cons_append->FN,length_nil->FO,nil_append->FP
namespace Go.Proofs.YtmibehbhnkeaiaaGreatEv
open Go Go.Proofs Go.RowKit Go.Shelf Go.Maps
abbrev eu (x:Int):Value:=.int .i64 x
theorem C9 {n:Nat}{a b c:World}(A:Below n a b)(B:Below n a c)(u:b.heap.size<=c.heap.size):Below n b c:=⟨B.os.trans A.os.symm,B.tape.trans A.tape.symm,B.output.trans A.output.symm,u,λk r=>(B.block k r).trans (A.block k r).symm⟩
def qr:Code:=(Code.region 2 #[{ dst:=some 5,op:=Op.assign (Operand.tmp 7),type:=3,pos:= "iter.go:51",after:=#[],guard:=none }] false)
def vn:Code:=(Code.block 1 (Code.region 3 #[{ dst:=some 8,op:=Op.load 67 (Operand.tmp 2),type:=67,pos:= "iter.go:52",after:=#[],guard:=none },{ dst:=some 9,op:=Op.move (Operand.tmp 5),type:=3,pos:= "iter.go:52",after:=#[],guard:=none },{ dst:=some 10,op:=Op.buildSlice 67 1 #[(0,Operand.tmp 9)],type:=67,pos:= "iter.go:52",after:=#[{ on:=1,ground:=Ground.data }],guard:=none },{ dst:=some 11,op:=Op.call { callee:=Callee.builtin Builtin.append,args:=#[Operand.tmp 8,Operand.tmp 10],argTypes:=#[67,67] },type:=67,pos:= "iter.go:52",after:=#[{ on:=0,ground:=Ground.data },{ on:=2,ground:=Ground.data }],guard:=none },{ dst:=none,op:=Op.store 67 (Operand.tmp 2) (Operand.tmp 11),type:=0,pos:= "iter.go:52",after:=#[{ on:=3,ground:=Ground.data },{ on:=3,ground:=Ground.chain },{ on:=0,ground:=Ground.phase },{ on:=1,ground:=Ground.phase },{ on:=2,ground:=Ground.phase },{ on:=3,ground:=Ground.phase }],guard:=none }] false))
def jI (fn:FuncId)(u:Value)(y D:Nat)(st:LoopState)(r:Option Code):Loop :=
 { state:=st,pending:=r,fn,tmps:=#[.slice none 0 0,u,.pointer (some ⟨y,0,none⟩),undef,.slice none 0 0,undef,u,undef,undef,undef,undef,undef,undef],params:=#[7],assign:=qr,body:=vn,defers:=D }
structure vo (w0:World) (fn:FuncId) (sv:Value) (Bs l D:Nat) (ss:List Int) (W:World):Prop where
 box:∃ v,W.heap[Bs]?=some (.cells #[v] 67 (0,0))/\W.ownsRow w0.heap.size 3 1 v ss.length (ss.map eu)/\(v=.slice none 0 0<->ss=[])
 L:W.heap[l]?=some (.loop (jI fn sv Bs D .ready none))
 K:W.heap[D]?=some (.deferred (some []))
 below:Below w0.heap.size w0 W
theorem sk {W W':World}{y:Option Nat}{base:Nat}{e:TypeId}{size:Nat}{v:Value}{k:Nat}{xs:List Value}(h:W.ownsRow base e size v k xs)(O:W.grownBy W' y)
  (u:∀ r,y=some r->∃ o:Obj,W.heap[r]?=some o/\o.isWalk=true):W'.ownsRow base e size v k xs:=by
 refine h.kept O ?_;rcases h.2 with ⟨rfl,_⟩|⟨g,I,J,rfl,_,z,_⟩
 ·exact .inl rfl
 ·refine .inr λM=>?_
  obtain⟨o,H,R⟩:=u g (by simpa[FK]using M.symm);rw[z]at H;cases H;cases R
theorem zM (w0:World)(fn:FuncId)(X:Value)(J l D B:Nat)(M:w0.heap.size<=B):AbidesFrom B (vo w0 fn X J l D):=λs W Y H h z y=>by
 have u:∀ r,H=some r->∃ o:Obj,W.heap[r]?=some o/\o.isWalk=true:=λr e=>(y r e).2
 obtain⟨v,I,R,O⟩:=h.box;exact⟨⟨v,(grownBy_keeps z u I rfl).trans I,sk R z u,O⟩,(grownBy_keeps z u h.L rfl).trans h.L,(grownBy_keeps z u h.K rfl).trans h.K,
  h.below.grown z h.below.size (λk e=>Nat.le_trans M (y k e).1)⟩
theorem dS (W:World)(l:Nat)(o:Obj):W.grownBy (W.putObj l o) (some l) :=
 ⟨rfl,rfl,rfl,by simp,λk _ r=>World.putObj_heap_other (λe=>r (by rw[e]))⟩
theorem qs (W:World)(b:Nat)(v:Value):W.grownBy (W.setCell ⟨b,0,none⟩ v) (some b) :=
 ⟨rfl,rfl,rfl,(KeepsWalks.setCell W _ v).size,λk _ r=>Below.heap_setCell _ _ _ k (λe=>r (by rw[e]))⟩
theorem iA {W:World}{base:Nat}{e:TypeId}{size:Nat}{v:Value}{k:Nat}{xs:List Value}(h:W.ownsRow base e size v k xs){j:Nat}{o:Obj}(y:W.heap[j]?=some o)(u:∀ cur,o≠.cells cur e (0,0)) :
  v.ownBlock=none\/v.ownBlock≠some j:=by
 rcases h.2 with ⟨rfl,_⟩|⟨g,z,cur,rfl,_,r,_⟩
 ·exact .inl rfl
 ·refine .inr λH=>?_
  have:g=j:=by simpa[FK]using H
  subst this;rw[r]at y;cases y;exact u cur rfl
theorem l8 {W:World}{B:Nat}{v:Value}{t:TypeId}(h:W.heap[B]?=some (.cells #[v] t (0,0))):W.cell? ⟨B,0,none⟩=some v/\W.frozen? ⟨B,0,none⟩=false:=by
 constructor <;> simp[World.cell?,World.frozen?,h]
theorem qt {W:World}{B:Nat}{v:Value}{t:TypeId}(u:Value)(h:W.heap[B]?=some (.cells #[v] t (0,0))):(W.setCell ⟨B,0,none⟩ u).heap[B]?=some (.cells #[u] t (0,0)):=by
 obtain⟨r,y⟩:=FJ.1 h;show (W.heap.modify B _)[B]?=_;rw[Array.getElem?_eq_getElem (by rw[Array.size_modify];exact r),Array.getElem_modify_self,y];rfl
theorem qu {W:World}{base:Nat}{e:TypeId}{size:Nat}{v:Value}{k:Nat}{xs:List Value}(h:W.ownsRow base e size v k xs):∀ (j:Nat) (o:Obj),v.ownBlock=some j->W.heap[j]?=some o->o.isWalk=false:=by
 intro j o u y;rcases h.2 with ⟨rfl,_⟩|⟨g,z,H,rfl,_,r,_⟩
 ·simp[FK]at u
 ·have:g=j:=by simpa[FK]using u
  subst this;rw[r]at y;cases y;rfl
theorem Tryz.info3:(Tryz.prog.info? 3).map (λi=>(i.zero,i.size,i.bytes))=some (some (.int .i64 0),1,8):=by kernel_rfl
set_option maxRecDepth 100000 in
set_option maxHeartbeats 2000000 in
theorem Cj (F:Fence)(m:Nat)(w0:World)(fn:FuncId)(hfn:F.fn fn)(sv:Value)(Bs l D:Nat)(hBl:Bs≠l)(hDl:D≠l)(hDB:D≠Bs)(h0B:w0.heap.size<=Bs)(h0l:w0.heap.size<=l)
  (N:Nat) (hN:N<=maxLen) (hNb:N*8<=140737488355328) (ss:List Int) (x:Int) (W:World) (h:vo w0 fn sv Bs l D ss W) (hlen:ss.length<N) :
  YieldAt F m Tryz.prog l #[eu x] W λe W'=>(e=.returned (.bool true)/\vo w0 fn sv Bs l D (ss++[x]) W'/\Below w0.heap.size W W')\/(e=.returned (.bool false)/\False):=by
 obtain⟨i0,hi,hz0,hz1,hz2⟩:=info_parts Tryz.info3;obtain⟨v,hv,hrow,_⟩:=h.box;refine⟨fn,#[.slice none 0 0,sv,.pointer (some ⟨Bs,0,none⟩),undef,.slice none 0 0,undef,sv,eu x,undef,undef,undef,undef,undef],qr,vn,by simpa[jI]using run_yield (P:=Tryz.prog) (args:=#[eu x]) h.L rfl,roundIn_of_wpIn hfn ?_⟩;have hl:l<W.heap.size:=(FJ.1 h.L).1;have hbr:=run_beginRound (P:=Tryz.prog) h.L rfl;obtain⟨W2,hW2⟩:∃ W2,W.putObj l (.loop { jI fn sv Bs D .ready none with state:=.busy })=W2:=⟨_,rfl⟩;rw[hW2]at hbr;have hg2:W.grownBy W2 (some l):=by rw[<- hW2];exact dS _ _ _
 have hk2:KeepsWalks W W2:=by rw[<- hW2];exact KeepsWalks.putObj _ h.L rfl
 have hv2:W2.heap[Bs]?=some (.cells #[v] 67 (0,0)):=by rw[<- hW2];exact (World.putObj_heap_other hBl).trans hv
 have hK2:W2.heap[D]?=some (.deferred (some [])):=by rw[<- hW2];exact (World.putObj_heap_other hDl).trans h.K
 have hL2:W2.heap[l]?=some (.loop { jI fn sv Bs D .ready none with state:=.busy }):=by rw[<- hW2];exact World.putObj_heap_same hl
 have hrow2:W2.ownsRow w0.heap.size 3 1 v ss.length (ss.map eu):=hrow.kept hg2 (iA hrow h.L (λcur e=>by cases e));have hb2:Below w0.heap.size w0 W2:=h.below.grown hg2 h.below.size (λk e=>by cases e;exact h0l);obtain⟨hc2,hf2⟩:=l8 hv2;have hBlt:Bs<W2.heap.size:=(FJ.1 hv2).1;have hl2:l<W2.heap.size:=(FJ.1 hL2).1;have hDlt:D<W2.heap.size:=(FJ.1 hK2).1;have ne_of:∀ {j:Nat} {o:Obj},W2.heap[j]?=some o->(∀ cur,o≠.cells cur 3 (0,0))->some j≠v.ownBlock:=λhj hno=>by
  rcases iA hrow2 hj hno with e|e
  ·rw[e];simp
  ·exact λe'=>e e'.symm
 clear hW2;unfold qr
 gi_wp2_with (rw[Oper.semAt_eq _ _ _ (λc h=>by cases h)];go_simp;try go_bits)
 unfold vn
 gi_wp2_with (fail)
 rw[Oper.semAt_eq _ _ _ (λc h=>by cases h)];go_simp;try go_bits
 gi_wp2_with (fail)
 rw[Oper.semAt_eq _ _ _ (λc h=>by cases h)];go_simp;try go_bits
 gi_step
 refine wpListIn_append_own _ rfl _ _ 67 rfl w0.heap.size 3 i0 (.int .i64 0) 1 8 Tryz.underlying67 hi hz0 hz1 hz2 rfl (by decide) _ _ _ rfl (hrow2.alloc _) ⟨W2.heap.size,0,none⟩ 1 1 [eu x] rfl rfl (cell_one_new _ _ _) (by simp[Value.oneCell',eu]) (by omega) (by omega) (by have:=hb2.size;simp;omega) ?_;intro v' w3 hown' hg3 hnil3;have hv3:w3.heap[Bs]?=some (.cells #[v] 67 (0,0)):=(hg3.block Bs (by simp;omega) (ne_of hv2 (λcur e=>by cases e))).trans ((Below.heap_alloc _ _ Bs hBlt).trans hv2);obtain⟨hc3,hf3⟩:=l8 hv3;obtain⟨g',cap',cur',rfl,hbase',hgb',hr1,hr2,hr3,hr4⟩:∃ g' cap' cur',v'=.slice (some ⟨g',0,none⟩) (ss.length+1) cap'/\w0.heap.size<=g'/\w3.heap[g']?=some (.cells cur' 3 (0,0))/\ss.length+1<=cap'/\cap'<=maxLen/\cur'.size=cap'*1/\cur'.toList.take ((ss.length+1)*1)=ss.map eu++[eu x]:=by
  rcases hown'.2 with ⟨_,h0⟩|h'
  ·exact absurd h0 (by omega)
  ·exact h'
 go_frame
 gi_wp2_with (fail)
 rw[Oper.semAt_eq _ _ _ (λc h=>by cases h)];go_simp;try go_bits
 gi_wp2_with (fail)
 have hg3':(W2.alloc (.cells #[eu x] 3)).grownBy w3 v.ownBlock:=hg3;have hL3:w3.heap[l]?=some (.loop { jI fn sv Bs D .ready none with state:=.busy }):=(hg3'.block l (by simp;omega) (ne_of hL2 (λcur e=>by cases e))).trans ((Below.heap_alloc _ _ l hl2).trans hL2);have hK3:w3.heap[D]?=some (.deferred (some [])):=(hg3'.block D (by simp;omega) (ne_of hK2 (λcur e=>by cases e))).trans ((Below.heap_alloc _ _ D hDlt).trans hK2);obtain⟨w4,hw4⟩:∃ w4,w3.setCell ⟨Bs,0,none⟩ (.slice (some ⟨g',0,none⟩) (ss.length+1) cap')=w4:=⟨_,rfl⟩;rw[hw4];have hg4:w3.grownBy w4 (some Bs):=by rw[<- hw4];exact qs _ _ _
 have hv4:w4.heap[Bs]?=some (.cells #[.slice (some ⟨g',0,none⟩) (ss.length+1) cap'] 67 (0,0)):=by rw[<- hw4];exact qt _ hv3
 have hL4:w4.heap[l]?=some (.loop { jI fn sv Bs D .ready none with state:=.busy }):=(hg4.block l (FJ.1 hL3).1 (λe=>hBl (by cases e;rfl))).trans hL3;have hK4:w4.heap[D]?=some (.deferred (some [])):=(hg4.block D (FJ.1 hK3).1 (λe=>hDB (by cases e;rfl))).trans hK3;have hrow4:=hown'.kept hg4 (iA hown' hv3 (λcur e=>by cases e));have hl4:l<w4.heap.size:=(FJ.1 hL4).1;have hb3:Below w0.heap.size w0 w3:=(hb2.alloc hb2.size _).grown hg3' (by have:=hb2.size;simp;omega) (λk e=>(hrow2.lt k e).1);have hb4:Below w0.heap.size w0 w4:=hb3.grown hg4 hb3.size (λk e=>by cases e;exact h0B);have hk4:KeepsWalks W w4:=((hk2.trans (KeepsWalks.alloc _ _)).trans (KeepsWalks.of_grownBy hg3' (qu (hrow2.alloc _)))).trans (by rw[<- hw4];exact KeepsWalks.setCell _ _ _);clear hw4;refine⟨_,_,run_endRound none hL4,rfl,⟨⟨_,(World.putObj_heap_other hBl).trans hv4,?_,by simp⟩,World.putObj_heap_same hl4,(World.putObj_heap_other hDl).trans hK4,hb4.grown (dS _ _ _) hb4.size (λk e=>by cases e;exact h0l)⟩,C9 h.below (hb4.grown (dS _ _ _) hb4.size (λk e=>by cases e;exact h0l)) (hk4.trans (KeepsWalks.putObj _ hL4 rfl)).size⟩;have:=hrow4.kept (dS w4 l (.loop { { jI fn sv Bs D .ready none with state:=.busy } with state:=if (none:Option Code).isNone then .ready else .done,pending:=none })) (iA hrow4 hL4 (λcur e=>by cases e));simpa using this
set_option maxRecDepth 100000 in
set_option maxHeartbeats 2000000 in
theorem vp (F:Fence)(n:Nat)(hp:F.fn 321)(hro:F.round=none)(hn:2<=n)(g:Nat)(lb:Array Value)(hFg:F.fn g)(eg:∀ args w,(callFunc g args).run Tryz.prog w=.ok (.enter g args) w)
  (S:List Int->Prop) (N:Nat) (hN:N<=maxLen) (hNb:N*8<=140737488355328) (w:World) (hseq:SeqStopsK F (n-1) Tryz.prog g lb (λx=>#[eu x]) (Below w.heap.size) S (λ_=>True) N w) :
  CallsIn F n Tryz.prog 321 #[.slice none 0 0,.func (.func g) #[] lb] w λe w'=>∃ (v:Value) (ss:List Int),e=.returned v/\S ss/\w'.ownsRow w.heap.size 3 1 v ss.length (ss.map eu)/\(v=.slice none 0 0<->ss=[])/\Below w.heap.size w w':=by
 have h1:1<=n:=by omega
 refine callsIn_of_wp_marks Tryz.func321 rfl hp ?_ hro;simp only[Tryz.ntmps321,FL,FM,FO,Nat.reduceAdd,Nat.reduceSub,Array.replicate_succ,Array.replicate_zero,List.push_toArray,List.append_toArray,FP,FN]
 gi_wp2
 refine wpIn_rangeFunc ?_;intro fn hfn;rw[hro];obtain⟨W0,hW0⟩:∃ W0,w.alloc (.cells #[.slice none 0 0] 67)=W0:=⟨_,rfl⟩;have hs0:W0.heap.size=w.heap.size+1:=by rw[<- hW0];simp
 have hv0:W0.heap[w.heap.size]?=some (.cells #[.slice none 0 0] 67 (0,0)):=by rw[<- hW0];exact World.alloc_heap_new w _
 have hb0:Below w.heap.size w W0:=by rw[<- hW0];exact (Below.refl _ w).alloc (Nat.le_refl _) _
 rw[hW0];obtain⟨W1,hW1⟩:∃ W1,(W0.alloc (.deferred (some []))).alloc (.loop (jI fn (.func (.func g) #[] lb) w.heap.size W0.heap.size .ready none))=W1:=⟨_,rfl⟩;have hold:∀ k,k<W0.heap.size->W1.heap[k]?=W0.heap[k]?:=λk hk=>by
  rw[<- hW1];exact (Below.heap_alloc _ _ k (by simp;omega)).trans (Below.heap_alloc _ _ k hk)
 have hb1:Below w.heap.size w W1:=by rw[<- hW1];exact (hb0.alloc hb0.size _).alloc (by have:=hb0.size;simp;omega) _
 have hs1:W1.heap.size=W0.heap.size+2:=by rw[<- hW1];simp
 have hM:vo w fn (.func (.func g) #[] lb) w.heap.size (W0.heap.size+1) W0.heap.size [] W1 :=
  ⟨⟨_,(hold w.heap.size (by omega)).trans hv0,⟨rfl,.inl ⟨rfl,rfl⟩⟩,by simp⟩,
   by rw[<- hW1];have:=World.alloc_heap_new (W0.alloc (.deferred (some []))) (.loop (jI fn (.func (.func g) #[] lb) w.heap.size W0.heap.size .ready none));rwa [World.size_alloc]at this,
   by rw[<- hW1];exact (Below.heap_alloc _ _ _ (by simp)).trans (World.alloc_heap_new W0 _),hb1⟩
 refine⟨W0.heap.size+1,[{ target:=.collected W0.heap.size,args:=#[] }],W1,{ target:=.fn (.func g) lb,args:=#[.func (.yield (W0.heap.size+1)) #[] #[]] },W1,g,
  #[.func (.yield (W0.heap.size+1)) #[] #[]]++lb,W1,?_,?_,?_,?_,λ_=>h1,?_⟩
 ·rw[<- hW1];exact run_enterLoop_outer _ _ _ _ _
 ·simp[resolve,go_sem]
 ·intro f' hf';simp[Target.leads]at hf';subst hf';exact hFg
 ·simp[invoke,go_sem,eg]
 ·refine (hseq (W0.heap.size+1) (vo w fn (.func (.func g) #[] lb) w.heap.size (W0.heap.size+1) W0.heap.size) (λ_ _=>False) W1 hb1 (zM _ _ _ _ _ _ _ hb1.size) (λ_ _ _ _ h _ _=>h)
    (λpre x W hJ hl=>Cj F (n-1-1) w fn hfn _ w.heap.size (W0.heap.size+1) W0.heap.size (by omega) (by omega) (by omega) (Nat.le_refl _) (by omega) N hN hNb pre x W hJ hl) hM).mono ?_
  rintro e W2 ⟨⟨v0,rfl⟩,⟨ss,hS,h2⟩|⟨_,_,hf⟩⟩
  case inr=>exact hf.elim
  obtain⟨v,hv,hrow,hnil⟩:=h2.box;have hend:=run_endLoop (P:=Tryz.prog) h2.L (by simp[jI]);obtain⟨W3,hW3⟩:∃ W3,W2.putObj (W0.heap.size+1) (.loop { jI fn (.func (.func g) #[] lb) w.heap.size W0.heap.size .ready none with state:=.exhausted })=W3:=⟨_,rfl⟩;rw[hW3]at hend;have hg3:W2.grownBy W3 (some (W0.heap.size+1)):=by rw[<- hW3];exact dS _ _ _
  have hv3:W3.heap[w.heap.size]?=some (.cells #[v] 67 (0,0)):=by rw[<- hW3];exact (World.putObj_heap_other (by omega)).trans hv
  have hK3:W3.heap[W0.heap.size]?=some (.deferred (some [])):=by rw[<- hW3];exact (World.putObj_heap_other (by omega)).trans h2.K
  have hrow3:=hrow.kept hg3 (iA hrow h2.L (λcur e=>by cases e));have hb3:Below w.heap.size w W3:=h2.below.grown hg3 h2.below.size (λk e=>by cases e;omega);obtain⟨hc3,hf3⟩:=l8 hv3;clear hW3;refine⟨none,W3,hend,?_⟩
  gi_wp2
  rw[<- hs0];refine⟨by simp,.inl ⟨_,_,rfl,run_takeDeferred hK3,?_⟩⟩;exact⟨_,results_tmp rfl _ _ _,v,ss,rfl,hS,hrow3.kept (dS _ _ _) (iA hrow3 hK3 (λcur e=>by cases e)),hnil,hb3.grown (dS _ _ _) hb3.size (λk e=>by cases e;omega)⟩
set_option maxHeartbeats 1000000 in
theorem yb (F:Fence)(n:Nat)(M:F.fn 291)(hp:F.fn 321)(y:F.round=none)(hn:3<=n)(g:Nat)(O:Array Value)(I:F.fn g)(X:∀ args w,(callFunc g args).run Tryz.prog w=.ok (.enter g args) w)
  (S:List Int->Prop) (N:Nat) (Y:N<=maxLen) (J:N*8<=140737488355328) (w:World) (H:SeqStopsK F (n-1-1) Tryz.prog g O (λx=>#[eu x]) (Below w.heap.size) S (λ_=>True) N w) :
  CallsIn F n Tryz.prog 291 #[.func (.func g) #[] O] w λe R=>∃ (v:Value) (r:List Int),e=.returned v/\S r/\R.ownsRow w.heap.size 3 1 v r.length (r.map eu)/\(v=.slice none 0 0<->r=[])/\Below w.heap.size w R:=by
 have h1:1<=n:=by omega
 refine callsIn_of_wp Tryz.func291 rfl M ?_ y;simp only[Tryz.ntmps291,FL,FM,FO,Nat.reduceAdd,Nat.reduceSub,Array.replicate_succ,Array.replicate_zero,List.push_toArray,List.append_toArray,FP,FN]
 gi_wp2_with (gi_at_call 321;refine (vp F (n-1) hp y (by omega) g O I X S N Y J _ H).mono ?_;rintro e R ⟨v,r,rfl,Z,z,u,hb⟩)
 go_ret
 exact⟨v,r,rfl,Z,z,u,hb⟩
end Go.Proofs.YtmibehbhnkeaiaaGreatEv
