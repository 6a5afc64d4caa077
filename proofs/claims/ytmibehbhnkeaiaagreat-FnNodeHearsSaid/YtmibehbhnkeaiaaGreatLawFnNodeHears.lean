/- FnNodeHears: the plain law. -/
import Derived.Test.YtmibehbhnkeaiaaGreatP3
set_option linter.unusedVariables false
set_option linter.unusedSimpArgs false
open Bool renaming not_true->FL
open List renaming mem_map->FM
open Option renaming bind_some->FJ,bind->FK
namespace Go.Proofs.YtmibehbhnkeaiaaGreatEv
open Go
theorem Dk (K:Nat)(u:List Int)(hc:zk u)(R:1048577<K):Q240.f K (u,())=some ((true,()),()):=by
 simp only[Q240.f,Q240.pre,zc3ec45,zcf8680];by_cases h:(u.length:Int)>1048576
 ·rw[decide_eq_true h];rfl
 rw[decide_eq_false h];simp only[cond_false];obtain⟨⟨⟨n,w,⟨⟩⟩,⟨⟩⟩,e0,hn,hw⟩:=xD K u hc R;have hn:NS 9 n:=hn;have hw:(aj.table w).length<=1048576:=hw;rw[e0];simp only[FJ];obtain⟨y,ws,b,hy,_,_,e1,e2,q1,q2,k1,k2,h3,_,_⟩:=zl K n w hn.nb hw R;rw[e2];simp only[FJ];rw[e1];simp only[FJ];rw[k2];simp only[rb,FJ];rw[q1];simp only[rb,FJ,FL,cond_false,cond_true];rw[q2];simp only[rb,FJ,FL,cond_false];rw[k1];simp only[rb,FJ,bne_self_eq_false,beq_self_eq_true,cond_false];cases b with
 |false=>rfl
 |true =>
  simp only[FL,cond_false];by_cases Z:w.2.1=6
  ·rw[show (w.2.1==6)=true by simpa using Z];rfl
  rw[show (w.2.1==6)=false by simpa using Z];simp only[cond_false];obtain⟨hP,hW,X,h4,h5⟩:=h3 rfl;have hU:=UpN.of hP X.1;have J:aE (aj.table w):=hW.2.2.2.2.2.2.2.1;obtain⟨hs,hb⟩:=jC hW X Z;have hh:bO K n w=er K (gB n (aj.table w) w.2.2.1) w:=by unfold bO;rw[if_pos ⟨hW,X⟩,if_neg Z]
  have z:=Di (b:=w.2.2.1) (aj.table w) n (aa.table n) hU X.2.1 (λf hf=>⟨J.1 f hf,hs f hf⟩) hb (Dd.refl hU.x.table);have a0:aa.table y=aa.table (gB n (aj.table w) w.2.2.1):=by rw[h4,hh];exact Dp K _ w
  rw[<- a0]at z;refine (congrArg (λo=>FK o _) (Cz K (aa.table n) (aj.table w) hU.x.table J R)).trans ?_;simp only[FJ];generalize putAll (aa.table n) (aj.table w)=r at z ⊢;have hl:=cf z.b;refine fV (k:=K) (step:=λrec a=>Q240.s0 K (u,()) rec a) r.length (λi=>(r,(i:Int),_)) (some ((true,()),())) ?_ ?_ (by omega)
  ·intro rec i hi;have hm:=List.getElem_mem hi;obtain⟨g,Y,eg⟩:∃ g∈aa.table y,g.1=r[i].1:=by
    have:r[i].1∈(aa.table y).map (·.1):=by rw[z.keys];exact FM.2 ⟨_,hm,rfl⟩
    obtain⟨g,Y,e⟩:=FM.1 this;exact⟨g,Y,e⟩
   have O:=Dt K z.a Y R;rw[eg]at O;have I:idx r (i:Int)=some r[i]:=af hi;simp only[Q240.s0];rw[ar i (by omega)];refine (congrArg (λb=>bif b then _ else _) (bt (Int.ofNat_lt.2 hi))).trans ?_;simp only[cond_true,Int.toNat_natCast];refine (congrArg (λo=>FK o _) I).trans ?_;simp only[FJ];refine (congrArg (λo=>FK o _) I).trans ?_;simp only[FJ];refine (congrArg (λo=>FK o _) O).trans ?_;simp only[FJ,FL,cond_false];refine (congrArg (λo=>FK o _) I).trans ?_;simp only[FJ];refine (congrArg (λo=>FK o _) I).trans ?_;simp only[FJ];by_cases H:r[i].1=n.1
   ·rw[show (r[i].1 != n.1)=false by simp[H]];rfl
   ·rw[show (r[i].1 != n.1)=true by simpa using H];simp only[cond_true];refine (congrArg (λo=>FK o _) I).trans ?_;simp only[FJ];refine (congrArg (λo=>FK o _) I).trans ?_;simp only[FJ];obtain rfl:g=r[i]:=iT z.a.2 Y ((z.same _ H).2 hm) eg;rw[show Ty.eqv t2 r[i] r[i]=decide (r[i]=r[i]) from iE _ _,decide_eq_true rfl];rfl
  ·intro rec;simp only[Q240.s0];refine (congrArg (λb=>bif b then _ else _) (aS _)).trans ?_;have M:(aa.table y).length=r.length:=by simpa using congrArg List.length z.keys
   show some ((((aa.table y).length:Int)==(r.length:Int),()),())=_;rw[M,beq_self_eq_true]
end Go.Proofs.YtmibehbhnkeaiaaGreatEv
