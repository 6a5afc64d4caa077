/- FnNodeAck: the plain law. -/
import Derived.Test.YtmibehbhnkeaiaaGreatP3
set_option linter.unusedVariables false
set_option linter.unusedSimpArgs false
open Bool renaming not_true->FK
open Nat renaming zero_le->FM
open Option renaming bind_some->FJ,bind->FL
namespace Go.Proofs.YtmibehbhnkeaiaaGreatEv
open Go
theorem E3 (K:Nat){n:aa}(u:UpN n){p:cm}(Y:p∈aa.places n)(M:1048577<K):∃ k,0<=k/\Q255.f K (n,p.1,())=some ((k,true,()),()):=by
 have hl:=u.nb.places;obtain⟨b,X,I⟩:=p8 K n u.nb M;obtain rfl:b=true:=I.2 u.ok;obtain⟨Z,z,R⟩:=List.getElem_of_mem Y;simp only[Q255.f];have H:=cG (step:=λrec a=>Q253.s0 K (aa.places n,(λJ=>(Q254.f K (J.1,p.1,())).map λy=>y.1.1),()) rec a) (aa.places n).length (λi=>(i:Int)) (λj=>∃ h:j<(aa.places n).length,(aa.places n)[j].1=p.1) (some ((-1,()),())) (λj=>some ((((j:Nat):Int),()),())) ?_ ?_ (aa.places n).length K 0 (by omega) (by omega)
 ·rcases H with ⟨i1,i2⟩|⟨j,_,O,j2,j3,j4⟩
  ·exact absurd ⟨z,by rw[R]⟩ (i1 Z (FM _) z)
  ·have e:Q253.f K (aa.places n,(λJ=>(Q254.f K (J.1,p.1,())).map λy=>y.1.1),())=some ((((j:Nat):Int),()),()):=j4;refine ?_;obtain⟨r,r0,_,_,r2⟩:=zc K (aa.coord n) (aa.places n)[j].2.1 u.x.coord (u.x.places.1 _ (List.getElem_mem O)).2.2.2.1 M;refine⟨r,r0,?_⟩;refine (congrArg (λo=>FL o _) e).trans ?_;simp only[FJ];rw[show decide (((j:Nat):Int)<0)=false from decide_eq_false (by omega),X];simp only[rb,cond_false,FJ,FK];refine (congrArg (λo=>FL o _) (af O)).trans ?_;simp only[FJ];exact (congrArg (λo=>FL o _) r2).trans rfl
 ·intro rec i H;simp only[Q253.s0];rw[decide_eq_true (show (i:Int)<(List.length (aa.places n):Int) by omega),af H,ar i (by omega)];simp only[cond_true,FJ,Q254.f,Option.map_some];by_cases h:(aa.places n)[i].1=p.1
  ·have e:((aa.places n)[i].1==p.1)=true:=by simpa using h
   rw[e];exact .inr ⟨⟨H,h⟩,rfl⟩
  ·have e:((aa.places n)[i].1==p.1)=false:=by simpa using h
   rw[e];exact .inl ⟨λ⟨_,I⟩=>h I,rfl⟩
 ·intro rec;simp only[Q253.s0,aS];rfl
def EW (x:aa)(s:Int):aj:=(1,2,(aa.probe x).1,x.1,s,(aa.probe x).1,(0,0,0,1500),[])
theorem EY {x:aa}(h:UpN x)(z:x.2.2.1=false)(H:¬ (aa.probe x).1<0){s:Int}(I:InP s 0 999999):dz (EW x s)/\ge x (EW x s):=by
 obtain⟨J,u,M,_⟩:=nd h.x H;have y:bX ((0,0,0,1500):cW):=⟨⟨by decide,by decide⟩,⟨by decide,by decide⟩,⟨by decide,by decide⟩,⟨by decide,by decide⟩⟩;refine⟨⟨show InP 1 1 2 from⟨by decide,by decide⟩,show InP 2 1 6 from⟨by decide,by decide⟩,u,h.x.me,I,u,y,show aE [] from⟨λf r=>by simp at r,List.Pairwise.nil⟩,?_⟩,⟨h.up,z,rfl,J,?_⟩⟩
 ·rw[if_neg (show ¬ (EW x s).2.1=6 from (by decide:¬ (2:Int)=6))];show cn [] _;intro f r;simp at r
 ·rw[if_neg (show ¬ (EW x s).1=2 from (by decide:¬ (1:Int)=2))];exact⟨M,.inl (by decide:(2:Int)≠6)⟩
theorem Id (K:Nat)(n:aa)(b:Int)(r:1048577<K):Q64.f K (n,[],b,())=some ((),(n,())):=by
 refine fV (k:=K) (step:=λrec a=>Q64.s0 K (n,[],b,()) (Q64.l1 K (n,[],b,()) rec) rec a) 0 (λ_=>((0:Int),flE n)) (some ((),(n,()))) (λrec i h=>absurd h (Nat.not_lt_zero _)) (λrec=>?_) (by omega);simp only[Q64.s0,zc286a0,zc3ec45,zcp4];rw[show decide ((0:Int)<(List.length ([]:List ah):Int))=false from rfl];rfl
theorem Ie (K:Nat)(n:aa)(w:aj)(u:NB n)(z:ff n)(y:¬ (dz w/\ge n w))(H:(aj.table w).length<=1048576)(r:1048577<K):Q91.f K (n,w,())=some ((n,[],()),()):=by
 obtain⟨b,I,J⟩:=p8 K n u r;obtain rfl:b=true:=J.2 z;simp only[Q91.f,Q90.f];rw[I];simp only[rb,FJ,FK,cond_false];rw[Aa K n u r];simp only[FJ,Q87.f];obtain⟨c,t2,t3⟩:=BV K n w u H r;rw[t2];cases c with
 |false=>rfl
 |true=>exact absurd (t3.1 rfl).2 y
theorem EZ (K:Nat){x:aa}{s:Int}(r:UpN x)(h:dz (EW x s)/\ge x (EW x s))(u:1048577<K):Q91.f K (x,EW x s,())=some ((cX K x (EW x s),[],()),()):=by
 obtain⟨b,H,I⟩:=p8 K x r.nb u;obtain rfl:b=true:=I.2 r.ok;simp only[Q91.f,Q90.f];rw[H];simp only[rb,FJ,FK,cond_false];rw[Aa K x r.nb u];simp only[FJ,Q87.f];obtain⟨c,t2,t3⟩:=BV K x (EW x s) r.nb (FM _) u;obtain rfl:c=true:=t3.2 ⟨r.ok,h⟩;rw[t2];simp only[rb,FJ,FK,cond_false];have z:Q86.f K (x,EW x s,())=some (([],()),(cX K x (EW x s),())):=by
  simp only[Q86.f];rw[show (EW x s).2.1=2 from rfl,show ((2:Int)==6)=false from rfl,show ((2:Int)==1)=false from rfl,show ((2:Int)==3)=false from rfl,show ((2:Int)==4)=false from rfl];simp only[cond_false,cond_true,beq_self_eq_true];refine (congrArg (λo=>FL o _) (Id K x (EW x s).2.2.1 u)).trans ?_;simp only[FJ];exact ack_i K x (EW x s) r h.1.2.2.2.2.2.2.1 h.1.2.2.1 u (λy=>some (([],()),(y,())))
 rw[z];simp only[FJ,Q89.f];simp
theorem E4 {x:aa}(h:UpN x)(H:¬ (aa.probe x).1<0):InP (aa.probe x).2.2.1 1 999999:=by
 have r:=h.x.probe;unfold dm at r;rw[if_neg (by omega)]at r;obtain⟨_,_,_,u,y⟩:=r;obtain⟨_,z⟩:=h.seq.seq;exact⟨u,Int.le_trans y z⟩
theorem EX (K:Nat)(r:List Int)(hc:zk r)(u:1048577<K):Q256.f K (r,())=some ((true,()),()):=by
 simp only[Q256.f];by_cases h:(r.length:Int)>1048576
 ·rw[decide_eq_true h];rfl
 rw[decide_eq_false h];simp only[cond_false];obtain⟨⟨⟨n,d,⟨⟩⟩,⟨⟩⟩,e0,O⟩:=EI K r hc u;have O:NS 9 n:=O;rw[e0];simp only[FJ];obtain⟨x,xs,hx,x1,x2,x3,x4,x5⟩:=EG K n d O.nb u;rw[x4];simp only[FJ];rw[x3];simp only[FJ];rw[vP K x hx u];simp only[rb,FJ,FK,cond_false];rw[uJ K xs x1 x2 u];simp only[rb,FJ,FK,cond_false];obtain⟨ok,o1,o2,o3⟩:=pm K n O.nb u;rw[o1];simp only[rb,FJ];cases ok with
 |false=>rfl
 |true =>
  have hP:=o3.1 rfl;simp only[FK,cond_false];rcases Bool.eq_false_or_eq_true n.2.1 with R|R
  case inr=>exact (congrArg (λb=>bif !b then _ else _) R).trans rfl
  refine (congrArg (λb=>bif !b then _ else _) R).trans ?_;simp only[FK,cond_false];have hU:=UpN.of hP R;have hX:UpN x/\x.2.2.1=n.2.2.1:=by
   rcases x5 hP with ⟨⟨_,_,ht⟩,rfl,_⟩|⟨_,rfl,_⟩
   ·obtain⟨u1,u2,u3⟩:=rN hU ht;exact⟨u1,u3⟩
   ·exact⟨hU,rfl⟩
  obtain⟨y,X2⟩:=hX;by_cases z:(aa.probe x).1<0
  ·exact (congrArg (λb=>bif b then _ else _) (decide_eq_true z)).trans rfl
  refine (congrArg (λb=>bif b then _ else _) (decide_eq_false z)).trans ?_;simp only[cond_false,Q252.f,FJ];rcases Bool.eq_false_or_eq_true n.2.2.1 with H|H
  ·have y2:=Ie K x (EW x (aa.probe x).2.2.1) hx y.ok (λh=>by have:=h.2.2.1;rw[X2,H]at this;cases this) (FM _) u;refine (congrArg (λo=>FL o _) y2).trans ?_;simp only[FJ];exact (congrArg (λb=>bif b then _ else _) H).trans rfl
  have I:x.2.2.1=false:=X2.trans H;obtain⟨s1,s2⟩:=E4 y z;have J:=EY y I z (s:=(aa.probe x).2.2.1) ⟨by omega,s2⟩;have M:=EY y I z (s:=(aa.probe x).2.2.1-1) ⟨by omega,by omega⟩;have y2:=EZ K y J u;have z2:=EZ K y M u;refine (congrArg (λo=>FL o _) y2).trans ?_;simp only[FJ];refine (congrArg (λb=>bif b then _ else _) H).trans ?_;simp only[cond_false];have hb:jR x (EW x (aa.probe x).2.2.1)=true:=by
   unfold jR;rw[decide_eq_false z];show (!false&&(aa.probe x).1==(aa.probe x).1&&(aa.probe x).2.2.1==(aa.probe x).2.2.1&&(aa.probe x).1==(aa.probe x).1)=true;simp only[beq_self_eq_true,Bool.not_false,Bool.and_self]
  have Z:jR x (EW x ((aa.probe x).2.2.1-1))=false:=by
   unfold jR;rw[show ((aa.probe x).2.2.1==(EW x ((aa.probe x).2.2.1-1)).2.2.2.2.1)=false from by
    show ((aa.probe x).2.2.1==(aa.probe x).2.2.1-1)=false;simp only[beq_eq_false_iff_ne];omega]
   simp
  have a0:bX (aj.coord (EW x (aa.probe x).2.2.1)):=J.1.2.2.2.2.2.2.1;have hA:cX K x (EW x (aa.probe x).2.2.1)=oc x ((gI x (EW x (aa.probe x).2.2.1)).foldl (nc K (EW x (aa.probe x).2.2.1)) (aa.coord x)) (gI x (EW x (aa.probe x).2.2.1)):=by unfold cX;rw[hb];rfl
  have X:cX K x (EW x ((aa.probe x).2.2.1-1))=x:=by unfold cX;rw[Z];rfl
  have Y:=(CH (K:=K) y a0 u).1;have a1:(((aa.probe x).1,aj.coord (EW x (aa.probe x).2.2.1),dC (ci (aa.places x) (aa.probe x).1) (gy x)):cm)∈aa.places (cX K x (EW x (aa.probe x).2.2.1)):=by
   rw[hA];exact bd (k:=λp:cm=>p.1).2 (.inl rfl)
  obtain⟨k,k0,k1⟩:=E3 K Y a1 u;refine (congrArg (λo=>FL o _) k1).trans ?_;simp only[FJ];rw[aC (n:=x.2.2.2.2.2.2.2.2.2.2.1.2.2.1-1) (show -9223372036854775808<=(aa.probe x).2.2.1-1 by omega) (show (aa.probe x).2.2.1-1<=9223372036854775807 by omega)];refine (congrArg (λo=>FL o _) z2).trans ?_;simp only[FJ];have a2:(aa.probe (cX K x (EW x (aa.probe x).2.2.1))).1=-1:=by rw[hA];rfl
  refine (congrArg (λb=>bif b then _ else _) (show ((aa.probe (cX K x (EW x (aa.probe x).2.2.1))).1==-1)=true by rw[a2];rfl)).trans ?_;simp only[cond_true];rw[decide_eq_true (show k>=0 from k0)];refine Eq.trans (b:=(Q95.f K (cX K x (EW x ((aa.probe x).2.2.1-1)),x,())).bind λa3=>some ((a3.1.1,()),())) rfl ?_;rw[X,vP K x hx u];rfl
end Go.Proofs.YtmibehbhnkeaiaaGreatEv
