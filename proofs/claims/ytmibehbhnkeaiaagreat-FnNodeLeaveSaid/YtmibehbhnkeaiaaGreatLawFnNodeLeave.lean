/- FnNodeLeave: the plain law. -/
import Derived.Test.YtmibehbhnkeaiaaGreatP3
import Derived.Test.YtmibehbhnkeaiaaGreatP2
set_option linter.unusedVariables false
set_option linter.unusedSimpArgs false
open Bool renaming not_true->FK
open Option renaming bind_some->FJ,bind->FL
open Option.some renaming injEq->FM
open Prod.mk renaming injEq->FN
namespace Go.Proofs.YtmibehbhnkeaiaaGreatEv
open Go
theorem ES (K:Nat)(u:List Int)(y:zk u)(H:1048577<K):Tot (Q192.f K (u,())) λr=>NS 9 r.1.1:=by
 obtain⟨z,I,e⟩:=CU (K:=K) u y.byte y.len;simp only[Q192.f];exact Tot.vl e (Tot.bind (EK I (bg.zero z) (by omega) H) λn ⟨J,M⟩=>Tot.ret J)
theorem ER (K:Nat)(n:aa)(H:NB n)(J:1048577<K):∃ y:aa,∃ r:List aj,NB y/\r.length<=1048576/\(∀ w∈r,(aj.table w).length<=1048576)/\Q209.f K (n,())=some ((y,r,()),())/\Q208.f K (n,())=some ((y,r,()),()) /\
  (ff n->n.2.1=true->UpN y/\y.1=n.1/\y.2.2.1=true/\∀ w∈r,aj.table w=aa.table y)/\(¬ (ff n/\n.2.1=true)->r=[]):=by
 obtain⟨y,r,h1,h2,h3,Y,h5⟩:=EO K n H J;refine⟨y,r,h1,h2,h3,Y,h5,?_⟩;obtain⟨b,o1,_,o3⟩:=pm K n H J;cases b with
 |false =>
  have:Q209.f K (n,())=some ((mV,[],()),()):=by
   simp only[Q209.f];rw[o1];rfl
  rw[Y]at this;simp only[FM,FN,and_true]at this;exact⟨λM=>(by have:=o3.2 M;cases this),λ_=>this.2⟩
 |true =>
  have M:=o3.1 rfl;have z:∀ (I:aa) (X:List aj),NB I->Q99.f K (n,())=some ((I,X,()),())->y=I/\r=X:=λI X Z e=>by
   have:Q209.f K (n,())=some ((I,X,()),()):=by
    simp only[Q209.f];rw[o1];simp only[rb,FJ,FK,cond_false];rw[nS K n H J];simp only[FJ];rw[e];simp only[FJ];rw[nS K I Z J];rfl
   rw[Y]at this;simp only[FM,FN,and_true]at this;exact this
  rcases Bool.eq_false_or_eq_true n.2.1 with u|u
  ·have hU:=UpN.of M u;rcases Bool.eq_false_or_eq_true n.2.2.1 with O|O
   ·obtain⟨rfl,rfl⟩:=z n [] H (by
     simp only[Q99.f,Q99.pre,zc8f7ea];rw[u,O];rfl)
    exact⟨λ_ _=>⟨hU,rfl,O,λw R=>by cases R⟩,λ_=>rfl⟩
   ·obtain⟨l1,l2⟩:=Ao hU O;obtain⟨rfl,rfl⟩:=z (nT n) (mp (nT n)) l1.nb (BC K n H M u O J);refine⟨λ_ _=>⟨l1,l2,rfl,λw R=>?_⟩,λh=>absurd ⟨M,u⟩ h⟩;unfold mp at R;obtain⟨f,_,rfl⟩:=List.mem_map.1 R;rfl
  ·obtain⟨rfl,rfl⟩:=z n [] H (by
    simp only[Q99.f,Q99.pre,zc8f7ea];rw[u];rfl)
   exact⟨λ_ h=>(by rw[u]at h;cases h),λ_=>rfl⟩
theorem Ib (K:Nat)(n:aa)(w:aj)(u:NB n)(y:ff n)(z:n.2.2.1=true)(H:(aj.table w).length<=1048576)(r:1048577<K):Q171.f K (n,w,())=some ((n,[],()),()):=by
 obtain⟨b,I,J⟩:=p8 K n u r;obtain rfl:b=true:=J.2 y;simp only[Q171.f,Q170.f];rw[I];simp only[rb,FJ,FK,cond_false];rw[Aa K n u r];simp only[FJ,Q167.f];obtain⟨c,t2,t3⟩:=BV K n w u H r;rw[t2];cases c with
 |false=>rfl
 |true =>
  have h:=(t3.1 rfl).2.2.2.1;rw[z]at h;cases h
theorem Ic (K:Nat)(n:aa)(r:Int)(y:NB n)(z:ff n)(H:n.2.2.1=true)(u:1048577<K):Q189.f K (n,r,())=some ((n,[],()),()):=by
 obtain⟨b,I,J⟩:=p8 K n y u;obtain rfl:b=true:=J.2 z;refine Eb K n n [] r y I ?_ u;simp only[Q186.f,Q165.f];rw[H];cases n.2.1 with
 |false=>rfl
 |true=>rfl
theorem EN (K:Nat)(u r:List Int)(hc:zk u)(hm:zk r)(y:1048577<K):Q210.f K (u,r,())=some ((true,()),()):=by
 simp only[Q210.f,Q210.pre,zc3ec45];by_cases h:(u.length:Int)>1048576
 ·rw[decide_eq_true h];rfl
 rw[decide_eq_false h];simp only[cond_false];by_cases h':(r.length:Int)>1048576
 ·rw[decide_eq_true h'];rfl
 rw[decide_eq_false h'];simp only[cond_false];obtain⟨⟨⟨n,⟨⟩⟩,⟨⟩⟩,e0,X⟩:=ES K u hc y;have X:NS 9 n:=X;rw[e0];simp only[FJ];obtain⟨x,H,M,x1,x2,x3,x4,x5,x6⟩:=ER K n X.nb y;rw[x4];simp only[FJ];rw[x3];simp only[FJ];rw[vP K x M y];simp only[rb,FJ,FK,cond_false];rw[uJ K H x1 x2 y];simp only[rb,FJ,FK,cond_false];obtain⟨ok,o1,o2,o3⟩:=pm K n X.nb y;rw[o1,o2];simp only[rb,FJ,bne_self_eq_false,cond_false];cases ok with
 |false =>
  obtain rfl:=x6 λh=>by have:=o3.2 h.1;cases this
  rfl
 |true =>
  have hP:=o3.1 rfl;simp only[FK,cond_false];rcases Bool.eq_false_or_eq_true n.2.1 with J|J
  case inr =>
   obtain rfl:=x6 λh=>by rw[J]at h;cases h.2
   exact (congrArg (λb=>bif !b then _ else _) J).trans rfl
  refine (congrArg (λb=>bif !b then _ else _) J).trans ?_;simp only[FK,cond_false];obtain⟨O,X2,R,X4⟩:=x5 hP J;have z:((x.1,x.2.2.2.2.1,(if x.2.2.1=true then 4 else 1),x.2.2.2.1):ah)∈aa.table x:=O.self;rw[R,if_pos rfl,X2]at z;have a0:=Dt K O.x.table z y;refine fV (k:=K) (step:=λrec a=>Q210.s0 K (u,r,()) rec a) H.length (λi=>(H,(i:Int),_)) (some ((true,()),())) ?_ ?_ (by omega)
  ·intro rec i Z;have I:idx H (i:Int)=some H[i]:=af Z;simp only[Q210.s0,zc286a0];rw[ar i (by omega)];refine (congrArg (λb=>bif b then _ else _) (bt (Int.ofNat_lt.2 Z))).trans ?_;simp only[cond_true,Int.toNat_natCast];refine (congrArg (λo=>FL o _) I).trans ?_;simp only[FJ];refine (congrArg (λo=>FL o _) I).trans ?_;simp only[FJ];refine (congrArg (λo=>FL o _) (show Q136.f K (aj.table H[i],n.1,())=some ((((n.1,x.2.2.2.2.1,4,x.2.2.2.1):ah),true,()),()) by rw[X4 _ (List.getElem_mem Z)];exact a0)).trans ?_;simp only[FJ,FK,cond_false,bne_self_eq_false]
  ·intro rec;obtain⟨⟨⟨m,w,⟨⟩⟩,⟨⟩⟩,Y,_,hw⟩:=xD K r hm y;have hw:(aj.table w).length<=1048576:=hw;have y2:=Ic K x (r.length:Int) M O.ok R y;have z2:=Ib K x w M O.ok R hw y;simp only[Q210.s0,zc286a0];refine (congrArg (λb=>bif b then _ else _) (aS _)).trans ?_;simp only[cond_false];rw[Y];simp only[FJ];refine (congrArg (λo=>FL o _) y2).trans ?_;simp only[FJ];refine (congrArg (λo=>FL o _) z2).trans ?_;simp only[FJ];refine (congrArg (λb=>bif b then _ else _) R).trans ?_;simp only[cond_true];refine (congrArg (λo=>FL o _) (vP K _ M y)).trans ?_;simp only[rb,FJ,cond_true];refine (congrArg (λb=>bif b then _ else _) (show (((([]:List aj).length:Nat):Int)==0)=true from rfl)).trans ?_;simp only[cond_true];exact (congrArg (λo=>FL o _) (vP K _ M y)).trans rfl
end Go.Proofs.YtmibehbhnkeaiaaGreatEv
