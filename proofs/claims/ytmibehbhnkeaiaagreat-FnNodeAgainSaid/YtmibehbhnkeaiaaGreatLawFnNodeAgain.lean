import Derived.Test.YtmibehbhnkeaiaaGreatP3
set_option linter.unusedVariables false
set_option linter.unusedSimpArgs false
open Bool renaming not_true->FK
open Option renaming bind_some->FJ
namespace Go.Proofs.YtmibehbhnkeaiaaGreatEv
open Go
theorem D1 {n:aa}{w:aj}(h:UpN n)(y:aE (aj.table w))(I:mS (aj.table w)):DE (DE n w) w=DE n w:=by
 have u:=h.x.others;obtain⟨M,O,R⟩:=lC (n:=n) u y I;have H:(bD (λx:ch=>x.1) (ak (cz (aj.table w)).1,bN n w) (aa.others n)).find? (λx=>x.1==ak (cz (aj.table w)).1)=some (ak (cz (aj.table w)).1,bN n w):=by
  have z:Asc (λx:ch=>x.1) (bD (λx:ch=>x.1) (ak (cz (aj.table w)).1,bN n w) (aa.others n)):=fI u.2;obtain⟨i,J,e⟩:=List.getElem_of_mem (bd (k:=λx:ch=>x.1) (xs:=aa.others n) (x:=(ak (cz (aj.table w)).1,bN n w)) |>.2 (.inl rfl));rw[mR (k:=λx:ch=>x.1) z J (by rw[e]),e]
 have r:bN (DE n w) w=bN n w:=by
  show putAll (fg (bD (λx:ch=>x.1) (ak (cz (aj.table w)).1,bN n w) (aa.others n)) (ak (cz (aj.table w)).1)) (aj.table w)=_;unfold fg;rw[H];exact DP (qd u _) y.1
 show oa (DE n w) (bD (λx:ch=>x.1) (ak (cz (aj.table w)).1,bN (DE n w) w) (bD (λx:ch=>x.1) (ak (cz (aj.table w)).1,bN n w) (aa.others n)))=_;rw[r,DU u.2];rfl
theorem DJ {K:Nat}{n:aa}{w:aj}(u:dz w)(r:ge n w):bO K n w=if w.2.1=6 then fw n w else er K (gB n (aj.table w) w.2.2.1) w:=by
 unfold bO;rw[if_pos ⟨u,r⟩]
theorem DV {K:Nat}{n:aa}{w:aj}(h:UpN n)(O:dz w)(H:ge n w)(hK:Kb K):ge (bO K n w).1 w/\Dz (bO K n w).1 (bO K (bO K n w).1 w).1:=by
 obtain⟨Y,I,u3⟩:=rS (w:=w) h hK;have M:ge (bO K n w).1 w:=by
  unfold ge at H ⊢;rw[I,u3];exact⟨Y.up,H.2⟩
 refine⟨M,?_⟩;have y:=O.2.2.2.2.2.2.2.1;have R:=DJ (K:=K) O M;have J:=DJ (K:=K) O H;have hg:(bO K n w).1.2.2.1=false:=u3.trans H.2.1;by_cases X:w.2.1=6
 ·rw[if_pos X]at J R;have hh:=O.2.2.2.2.2.2.2.2;rw[if_pos X]at hh;rw[R];cases z:ne (aj.table w) (ak n.1) with
  |true =>
   have Z:(bO K n w).1=gB n (aj.table w) n.1:=by rw[J];unfold fw;rw[z];rfl
   have hS:=lB.1 z;have r:=DD (b:=n.1) (aj.table w) n h H.2.1 (λf u=>⟨y.1 f u,hS f u⟩) (fX.me h.x.me);rw[<- Z]at r;unfold fw;rw[I,z];exact DF (b:=n.1) (aj.table w) _ Y hg (λf u=>⟨y.1 f u,by rw[I];exact hS f u⟩) (by rw[<- I];exact fX.me Y.x.me) r
  |false =>
   have Z:(bO K n w).1=DE n w:=by rw[J];unfold fw;rw[z];rfl
   unfold fw;rw[I,z];show Dz _ (DE (bO K n w).1 w);rw[Z,D1 h y hh];exact Dz.refl _
 ·rw[if_neg X]at J R;rw[R];obtain⟨hs,z⟩:=jC O H X;have r:=DD (b:=w.2.2.1) (aj.table w) n h H.2.1 (λf u=>⟨y.1 f u,hs f u⟩) z;have ht:=DH K (gB n (aj.table w) w.2.2.1) w;rw[<- J]at ht;exact (DF (b:=w.2.2.1) (aj.table w) _ Y hg (λf u=>⟨y.1 f u,by rw[I];exact hs f u⟩) ⟨z.1,by rw[I];exact z.2⟩ λf u=>ht.settled (r f u)).trans (DH K _ w)
theorem DK (K:Nat)(z:List Int)(hc:zk z)(H:Kb K):Q250.f K (z,())=some ((true,()),()):=by
 simp only[Q250.f];by_cases h:(z.length:Int)>1048576
 ·rw[decide_eq_true h];rfl
 rw[decide_eq_false h];simp only[cond_false];obtain⟨⟨⟨n,w,⟨⟩⟩,⟨⟩⟩,e0,O,M⟩:=xD K z hc H;have O:NS 9 n:=O;have M:(aj.table w).length<=1048576:=M;rw[e0];simp only[FJ];obtain⟨x,ws,b,hx,_,_,e1,e2,q1,q2,t1,_,h3,_,_⟩:=zl K n w O.nb M H;rw[e2];simp only[FJ];rw[e1];simp only[FJ];rw[q1];simp only[rb,FJ,FK,cond_false];rw[q2];simp only[rb,FJ,FK,cond_false];rw[t1];simp only[rb,FJ];cases b with
 |false=>rfl
 |true =>
  simp only[FK,cond_false];obtain⟨hP,hW,Y,h4,_⟩:=h3 rfl;have Z:=UpN.of hP Y.1;obtain⟨I,u⟩:=DV (K:=K) Z hW Y H;obtain⟨J,u2,u3⟩:=rS (w:=w) Z H;rw[<- h4]at I u J;obtain⟨y,us,hy,_,_,_,y2,y3,_,_⟩:=uK K x w hx M H;obtain⟨e5,_⟩:=y3 ⟨J.ok,hW,I⟩;obtain⟨X,_,_⟩:=rS (w:=w) J H;rw[<- e5]at u X;rw[y2];simp only[FJ];obtain⟨r,r0,r1,r2⟩:=DG K x hx H;obtain⟨s,s0,s1,s2⟩:=DG K y hy H;have hr:r=DC x:=by
   rcases r2 with ⟨h,_⟩|⟨_,_,h⟩
   ·exact absurd ⟨J.ok,J.up⟩ h
   ·exact h
  have hs:s=DC y:=by
   rcases s2 with ⟨h,_⟩|⟨_,_,h⟩
   ·exact absurd ⟨X.ok,X.up⟩ h
   ·exact h
  have R:s=r:=by
   rw[hr,hs];unfold DC DB;rw[u.table,u.others]
  rw[r1,s1];simp only[FJ];rw[R,lf K r r0 H];simp only[rb,FJ,cond_true];rw[u.inc,beq_self_eq_true];simp only[cond_true];refine congrArg (λb=>some ((b,()),())) ?_;show (((aa.doubts x).length:Int)==((aa.doubts y).length:Int))=true;rw[u.doubts,beq_self_eq_true]
end Go.Proofs.YtmibehbhnkeaiaaGreatEv
