/- slices.Values at ints, turned from the kit's worked text GgSlicesIterAtTheDump. Tryz: the program, 249: slices.Values, 292: its closure, 67: the type []int. -/
import Derived.Test.YtmibehbhnkeaiaaGreatProg
import Derived.RangeFuncBox
import Derived.RangeFuncLeaves
import Derived.WalkKit
import Derived.OwnWalkIn
import Derived.TacticsInMore
import Derived.LoopNIn
import Derived.LoopIn
import Derived.RangeFuncGives
import Derived.Shelf.Abstract
import Derived.Below
set_option linter.unusedVariables false
set_option linter.unusedVariables false
set_option linter.unusedSimpArgs false
open List renaming size_toArray->FJ,length_cons->FK,cons_append->FL,length_nil->FM,nil_append->FN,ext_getElem->FO
namespace Go.Proofs.YtmibehbhnkeaiaaGreatEv
open Go Go.Proofs Go.RowKit Go.Shelf
attribute [local go_sem] Oper.semAt_some
def ja {α:Type}(f:Nat->α)(k:Nat):List α:=(List.range k).map f
theorem tm {α:Type}(f:Nat->α)(k:Nat):ja f (k+1)=ja f k++[f k]:=by simp[ja,List.range_succ]
theorem vY {α:Type}(f:Nat->α)(k:Nat):(ja f k).length=k:=by simp[ja]
theorem AS (r:List Int):ja (λj=>r[j]?.getD 0) r.length=r:=by
 apply FO
 ·simp[ja]
 ·intro i y u;simp[ja,u]
set_option maxRecDepth 100000 in
set_option maxHeartbeats 2000000 in
theorem ya (F:Fence)(n:Nat)(hv1:F.fn 292)(hro:F.round=none)(hn:1<=n)(l Bs n₀ b off len cap:Nat)(zs:List Int)(hreach:len*8<=140737488351232)(hb:b<n₀)(J Jx:List Int->World->Prop)
  (hY:∀ pre x W,J pre W->pre.length<len->YieldAt F (n-1) Tryz.prog l #[.int .i64 x] W λe W' =>
   (e=.returned (.bool true)/\J (pre++[x]) W'/\Below n₀ W W')\/(e=.returned (.bool false)/\Jx (pre++[x]) W'))
  (W:World) (hBs:W.cell? ⟨Bs,0,none⟩=some (.slice (some ⟨b,off,none⟩) len cap)) (hc:∀ j,j<len->W.cell? ⟨b,off+j,none⟩=some (.int .i64 (zs[j]?.getD 0))) (h0:J [] W) :
  CallsIn F n Tryz.prog 292 #[.func (.yield l) #[] #[],.pointer (some ⟨Bs,0,none⟩)] W λe W'=>(∃ v,e=.returned v) /\
   ((∃ ys,ys=ja (λj=>zs[j]?.getD 0) len/\J ys W')\/(∃ pre,(∃ k,k<=len/\pre=ja (λj=>zs[j]?.getD 0) k)/\Jx pre W')):=by
 refine callsIn_of_wp Tryz.func292 rfl hv1 ?_ hro;simp only[Tryz.ntmps292,FJ,FK,FM,Nat.reduceAdd,Nat.reduceSub,Array.replicate_succ,Array.replicate_zero,List.push_toArray,List.append_toArray,FN,FL]
 gi_wp2
 gi_loopw [7] (λi wr=>∃ k:Nat,k<=len/\i=.int .i64 k/\J (ja (λj=>zs[j]?.getD 0) k) wr/\Below n₀ W wr)
  (λi _=>len-(intOf i).toNat)
 case atStart=>exact⟨0,Nat.zero_le _,rfl,h0,Below.refl _ _⟩
 case round =>
  obtain⟨k,hk,rfl,hJs,hnx⟩:=hrel;have hcx:k<len->wr.cell? ⟨b,off+k,none⟩=some (.int .i64 (zs[k]?.getD 0)):=λh=>(hnx.cell (p:=⟨b,off+k,none⟩) hb).trans (hc k h)
  by_cases hlt:k<len
  ·obtain⟨fn,tmps,assign,body,hy,hR⟩:=hY _ (zs[k]?.getD 0) wr hJs (by rw[vY];exact hlt);have hcx':=hcx hlt
   gi_wp2
   refine hR.mono ?_;rintro e W3 (⟨rfl,hJ3,hk3⟩|⟨rfl,hJx3⟩)
   ·
    gi_wp2
    go_roundw
    case rel=>exact⟨k+1,by omega,by simp,by rw[tm];exact hJ3,hnx.trans hk3⟩
    case measure=>simp[intOf];omega
   ·gi_wp2
    refine bodyPost_ret (results_none rfl _ _ _) rfl ?_;exact⟨⟨_,rfl⟩,.inr ⟨_,⟨k+1,by omega,(tm _ _).symm⟩,hJx3⟩⟩
  ·obtain rfl:k=len:=by omega
   gi_wp2
   go_end0
   exact⟨⟨_,rfl⟩,.inl ⟨_,rfl,hJs⟩⟩
theorem zK (r:List Int){k:Nat}(y:k<=r.length):ja (λj=>r[j]?.getD 0) k=r.take k:=by
 apply FO
 ·simp[ja,y]
 ·intro i u z;have:i<r.length:=by simp[ja]at u;omega
  simp[ja,this]
def Ints (r:Nat)(W:World)(z:Value)(u:List Int):Prop :=
 ∃ A y,z=.slice A u.length y/\(0<u.length->∃ b off,A=some ⟨b,off,none⟩/\b<r/\∀ j,j<u.length->W.cell? ⟨b,off+j,none⟩=some (.int .i64 (u[j]?.getD 0)))
theorem Ints.below {r:Nat}{A B:World}(h:Below r A B){z:Value}{H:List Int}:Ints r A z H->Ints r B z H
 |⟨a,u,e,M⟩=>⟨a,u,e,λR=>by
  obtain⟨b,off,I,y,J⟩:=M R;exact⟨b,off,I,y,λj O=>(h.cell (p:=⟨b,off+j,none⟩) y).trans (J j O)⟩⟩
set_option maxRecDepth 100000 in
set_option maxHeartbeats 1000000 in
theorem sj (F:Fence)(n:Nat)(hv1:F.fn 292)(hro:F.round=none)(l Bs:Nat)(A:Option Addr)(cap:Nat)(J:List Int->World->Prop)(W:World)(hBs:W.cell? ⟨Bs,0,none⟩=some (.slice A 0 cap))(h0:J [] W) :
  CallsIn F n Tryz.prog 292 #[.func (.yield l) #[] #[],.pointer (some ⟨Bs,0,none⟩)] W λe W'=>(∃ v,e=.returned v)/\J [] W':=by
 refine callsIn_of_wp Tryz.func292 rfl hv1 ?_ hro;simp only[Tryz.ntmps292,FJ,FK,FM,Nat.reduceAdd,Nat.reduceSub,Array.replicate_succ,Array.replicate_zero,List.push_toArray,List.append_toArray,FN,FL]
 gi_wp2
 gi_loopw [7] (λi wr=>i=.int .i64 0/\J [] wr) (λ_ _=>0)
 case atStart=>exact⟨rfl,h0⟩
 case round =>
  obtain⟨rfl,hJs⟩:=hrel
  gi_wp2
  go_end0
  exact⟨⟨_,rfl⟩,hJs⟩
set_option maxHeartbeats 1000000 in
theorem zL (F:Fence)(n:Nat)(y:F.fn 249)(u:F.round=none)(a:Option Addr)(len r:Nat)(w:World) :
  CallsIn F n Tryz.prog 249 #[.slice a len r] w λe z=>e=.returned (.func (.func 292) #[] #[.pointer (some ⟨w.heap.size,0,none⟩)])/\z=w.alloc (.cells #[.slice a len r] 67):=by
 refine callsIn_of_wp Tryz.func249 rfl y ?_ u;simp only[Tryz.ntmps249,FJ,FK,FM,Nat.reduceAdd,Nat.reduceSub,Array.replicate_succ,Array.replicate_zero,List.push_toArray,List.append_toArray,FN,FL]
 gi_wp2
 go_ret
 exact⟨rfl,rfl⟩
theorem vm (F:Fence)(n:Nat)(Z:F.fn 292)(Y:F.round=none)(hn:1<=n)(I r:Nat)(sv:Value)(M:List Int)(u:M.length*8<=140737488351232)(w:World)(a0:I<w.heap.size)(H:r<=w.heap.size)
  (hc:w.cell? ⟨I,0,none⟩=some sv) (hI:Ints r w sv M) :
  SeqStopsK F n Tryz.prog 292 #[.pointer (some ⟨I,0,none⟩)] (λx:Int=>#[Value.int .i64 x]) (Below r) (λys=>ys=M) (λpre=>pre <+: M) M.length w:=λl J Jx W hW _ _ hY h0=>by
 have R:=(hW.cell (p:=⟨I,0,none⟩) a0).trans hc;obtain⟨A,O,rfl,y⟩:=hI.below (hW.mono H);cases M with
 |nil=>exact (sj F n Z Y l I A O J W R h0).mono λe W' ⟨he,X⟩=>⟨he,.inl ⟨_,rfl,X⟩⟩
 |cons z zt =>
  obtain⟨b,off,rfl,hb,y⟩:=y (by simp);refine (ya F n Z Y hn l I r b off _ O (z::zt) u hb J Jx hY W R y h0).mono ?_;rintro e W' ⟨he,⟨ys,rfl,X⟩|⟨pre,⟨k,hk,rfl⟩,X⟩⟩
  ·exact⟨he,.inl ⟨_,AS (z::zt),X⟩⟩
  ·exact⟨he,.inr ⟨_,by rw[zK (z::zt) hk];exact List.take_prefix _ _,X⟩⟩
end Go.Proofs.YtmibehbhnkeaiaaGreatEv
