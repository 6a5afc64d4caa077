/- FnNodeEnd: the plain law. -/
import Derived.Test.YtaegajachoklkaaGreatP3
set_option linter.unusedVariables false
set_option linter.unusedSimpArgs false
open Bool renaming not_true->BE
open Int renaming le_refl->BF
open Option renaming bind_some->BD
namespace Go.Proofs.YtaegajachoklkaaGreatEv
open Go
theorem zl (n:aa):di (cW n)=di n:=by
 unfold cW;generalize aa.doubts n=r;induction r generalizing n with
 |nil=>rfl
 |cons d r u =>
  rw[List.foldl_cons];refine (u _).trans ?_;unfold c6;cases jS n.2.2.2.2.2.1 d.2.2.1 d.2.2.2.length with
  |false=>rfl
  |true=>exact (dn n (iU (aD (aa.table n) d.1)) n.1).2.2.2.2.2.2.1
theorem tA (m:aa):di (aW m).1=di m/\aQ (aW m).1=aQ m/\((aa.probe (aW m).1).1=-1 \/
  ((aa.probe (aW m).1).1=(aa.probe m).1/\(aa.probe (aW m).1).2.1=(aa.probe m).2.1/\(aa.probe (aW m).1).2.2.1=(aa.probe m).2.2.1/\aQ m-(aa.probe m).2.1<4)):=by
 unfold aW;cases I:(aa.probe m).1==-1 with
 |true=>exact⟨rfl,rfl,.inl (by simpa using I)⟩
 |false =>
  simp only[cond_false];cases cN (aD (aa.table m) (aa.probe m).1) with
  |false=>exact⟨rfl,rfl,.inl rfl⟩
  |true =>
   simp only[BE,cond_false];by_cases y:m.2.2.2.2.2.1-(aa.probe m).2.1>=4
   ·rw[decide_eq_true y];simp only[cond_true];cases (aD (aa.table m) (aa.probe m).1).2.2.1==1 with
    |false=>exact⟨rfl,rfl,.inl rfl⟩
    |true =>
     obtain⟨_,_,_,_,_,z,J,_,H,_⟩:=dn (setP m noP) (mc (aD (aa.table m) (aa.probe m).1)) m.1;exact⟨J,z,.inl (by simp only[cond_true];rw[H];rfl)⟩
   ·rw[decide_eq_false y];have r:aQ m-(aa.probe m).2.1<4:=by have e:aQ m=m.2.2.2.2.2.1:=rfl;omega
    simp only[cond_false];by_cases u:m.2.2.2.2.2.1-(aa.probe m).2.1>=2
    ·rw[decide_eq_true u];cases (aa.probe m).2.2.2 with
     |true=>exact⟨rfl,rfl,.inr ⟨rfl,rfl,rfl,r⟩⟩
     |false=>exact⟨rfl,rfl,.inr ⟨rfl,rfl,rfl,r⟩⟩
    ·rw[decide_eq_false u];exact⟨rfl,rfl,.inr ⟨rfl,rfl,rfl,r⟩⟩
theorem wg (m:aa):di m<=di (dv m).1/\aQ (dv m).1=aQ m/\((aa.probe (dv m).1=aa.probe m)\/(aa.probe (dv m).1).2.2.1=di m+1):=by
 unfold dv;cases (aa.probe m).1==-1 with
 |false=>exact⟨BF _,rfl,.inl rfl⟩
 |true =>
  simp only[cond_true,dQ];cases decide (di m>=999999) with
  |true=>exact⟨BF _,rfl,.inl rfl⟩
  |false =>
   simp only[cond_false];cases gW m with
   |none=>exact⟨BF _,rfl,.inl rfl⟩
   |some to=>exact⟨show di m<=di m+1 by omega,rfl,.inr rfl⟩
theorem pZ (y:aa):di y<=di (cS y)/\aQ (cS y)=aQ y+1/\((aa.probe (cS y)).1=-1\/(aa.probe (cS y)).2.2.1=di y+1 \/
  ((aa.probe (cS y)).1=(aa.probe y).1/\(aa.probe (cS y)).2.1=(aa.probe y).2.1/\(aa.probe (cS y)).2.2.1=(aa.probe y).2.2.1/\aQ y+1-(aa.probe y).2.1<4)):=by
 obtain⟨I,z⟩:=xZ (cF y);have I:aa.probe (cW (cF y))=aa.probe y:=I;have z:aQ (cW (cF y))=aQ y+1:=z;have O:di (cW (cF y))=di y:=zl (cF y);obtain⟨H,J,u⟩:=tA (cW (cF y));obtain⟨R,M,r⟩:=wg (eN y).1;have H:di (eN y).1=di y:=H.trans O;have J:aQ (eN y).1=aQ y+1:=J.trans z;refine⟨by rw[<- H];exact R,M.trans J,?_⟩;rcases r with r|r
 ·have r:aa.probe (cS y)=aa.probe (aW (cW (cF y))).1:=r;rw[r];rw[I,z]at u;rcases u with u|u
  ·exact .inl u
  ·exact .inr (.inr u)
 ·exact .inr (.inl (by rw[<- H];exact r))
def bC (n:aa):Nat->aa
 |0=>n
 |j+1=>cS (bC n j)
theorem rx {x:aa}(h:UpN x)(H:x.2.2.1=false)(R:aQ x<=900001)(z:(aa.probe x).1≠-1):∀ j,j<=4->UpN (bC x j)/\(bC x j).2.2.1=false/\aQ (bC x j)=aQ x+j/\(aa.probe x).2.2.1<=di (bC x j) /\
  (((aa.probe (bC x j)).1=-1\/(aa.probe x).2.2.1<(aa.probe (bC x j)).2.2.1)\/((aa.probe (bC x j)).2.1=(aa.probe x).2.1/\(aa.probe (bC x j)).2.2.1=(aa.probe x).2.2.1/\(j=0\/aQ (bC x j)-(aa.probe x).2.1<4)))
 |0,_=>by
  have u:=h.x.probe;unfold cC at u;rw[if_neg z]at u;exact⟨h,H,by simp[bC],u.2.2.2.2,.inr ⟨rfl,rfl,.inl rfl⟩⟩
 |j+1,hj=>by
  obtain⟨X,I,O,M,r⟩:=rx h H R z j (by omega);obtain⟨Z,_,J⟩:=km X (by omega);obtain⟨t1,t2,t3⟩:=pZ (bC x j);have y:aQ (bC x (j+1))=aQ (bC x j)+1:=t2;refine⟨Z,J.trans I,by rw[y,O];omega,Int.le_trans M t1,?_⟩;show ((aa.probe (cS (bC x j))).1=-1\/_)\/_;rcases t3 with t3|t3|⟨t3,t4,t5,t6⟩
  ·exact .inl (.inl t3)
  ·exact .inl (.inr (show (aa.probe x).2.2.1<(aa.probe (cS (bC x j))).2.2.1 by omega))
  ·rcases r with (r|r)|⟨r,Y,_⟩
   ·exact .inl (.inl (t3.trans r))
   ·exact .inl (.inr (show (aa.probe x).2.2.1<(aa.probe (cS (bC x j))).2.2.1 by omega))
   ·refine .inr ⟨t4.trans r,t5.trans Y,.inr ?_⟩;show aQ (cS (bC x j))-_<4;rw[t2,<- r];exact t6
theorem rZ (K:Nat)(r:List Int)(hc:xV r)(J:1048577<K):Q232.f K (r,())=some ((true,()),()):=by
 simp only[Q232.f,Q232.pre];by_cases h:(r.length:Int)>1048576
 ·rw[decide_eq_true h];rfl
 rw[decide_eq_false h];simp only[cond_false];obtain⟨⟨⟨n,M,⟨⟩⟩,⟨⟩⟩,e0,R⟩:=wd K r hc J;have R:NS 9 n:=R;rw[e0];simp only[BD];obtain⟨y,ws,hy,hw,ht,e1,e2,h3⟩:=oo K n M R.nb J;obtain⟨b,o1,_,o3⟩:=jt K n R.nb J;rw[e2];simp only[BD];rw[e1];simp only[BD];rw[uz K y hy J];simp only[rb,BD,BE,cond_false];rw[tz K ws hw ht J];simp only[rb,BD,BE,cond_false];rw[o1];simp only[rb,BD];cases b with
 |false=>rfl
 |true =>
  simp only[BE,cond_false];have hP:=o3.1 rfl;cases hu:n.2.1 with
  |false=>rfl
  |true =>
   cases hg:n.2.2.1 with
   |true=>rfl
   |false =>
    simp only[BE,cond_false];by_cases Y:n.2.2.2.2.2.1>900000
    ·rw[decide_eq_true Y];rfl
    rw[decide_eq_false Y];simp only[cond_false];have hU:=UpN.of hP hu;have a1:aQ n<=900000:=Int.not_lt.1 Y;rcases h3 hP with ⟨⟨_,_,hm⟩,rfl,_⟩|⟨h4,_⟩
    case inr=>exact absurd ⟨hu,hg,by omega⟩ h4
    obtain⟨hX,_,H⟩:=km hU hm;have H:=H.trans hg;by_cases I:(aa.probe (cS n)).1<0
    ·exact congrArg (λb=>bif b then _ else _) (decide_eq_true I)
    refine (congrArg (λb=>bif b then _ else _) (decide_eq_false I)).trans ?_;simp only[cond_false];have a0:aQ (cS n)<=900001:=by have:=(pZ n).2.1;omega
    have hE:=rx hX H a0 (by omega);generalize hx:cS n=x at *;refine eZ (step:=λrec a=>Q232.s0 K (r,()) rec a) 4 (λi=>((i:Int),x.1,x.2.1,x.2.2.1,x.2.2.2.1,x.2.2.2.2.1,x.2.2.2.2.2.1,x.2.2.2.2.2.2.1,x.2.2.2.2.2.2.2.1,(aa.probe x).1,(aa.probe x).2.1,(aa.probe x).2.2.1,(aa.probe x).2.2.2,
     (aa.coord x).1,(aa.coord x).2.1,(aa.coord x).2.2.1,(aa.coord x).2.2.2,(bC x i).1,(bC x i).2.1,(bC x i).2.2.1,(bC x i).2.2.2.1,(bC x i).2.2.2.2.1,(bC x i).2.2.2.2.2.1,(bC x i).2.2.2.2.2.2.1,(bC x i).2.2.2.2.2.2.2.1,aa.table (bC x i),aa.cast (bC x i),
     (aa.probe (bC x i)).1,(aa.probe (bC x i)).2.1,(aa.probe (bC x i)).2.2.1,(aa.probe (bC x i)).2.2.2,aa.doubts (bC x i),(aa.coord (bC x i)).1,(aa.coord (bC x i)).2.1,(aa.coord (bC x i)).2.2.1,(aa.coord (bC x i)).2.2.2,aa.places (bC x i),aa.others (bC x i))) (rb true) ?_ ?_ (by omega)
    ·intro rec i hi;obtain⟨O,X,i3,_⟩:=hE i (by omega);obtain⟨y,w,_,_,_,_,q1,q2⟩:=oo K (bC x i) 3 O.nb J;simp only[Q232.s0,zc286a0,zc3ec45,zcp8];rw[bq (by omega:(i:Int)<4),ar i (by omega)];simp only[cond_true];refine (congrArg (λo=>Option.bind o _) q1).trans ?_;rcases q2 O.ok with ⟨_,rfl,_⟩|⟨q2,_⟩
     ·rfl
     ·exact absurd ⟨O.up,X,by omega⟩ q2
    ·intro rec;obtain⟨O,X,i3,i4,u⟩:=hE 4 (by omega);generalize bC x 4=z at O X i3 i4 u ⊢;simp only[Q232.s0,zc286a0,zc3ec45,zcp8];rw[decide_eq_false (by omega:¬ ((4:Nat):Int)<4)];simp only[cond_false];by_cases hz:(aa.probe z).1<0
     ·exact congrArg (λb=>bif b then _ else _) (decide_eq_true hz)
     refine (congrArg (λb=>bif b then _ else _) (decide_eq_false hz)).trans ?_;have I:=hX.x.probe;unfold cC at I;rw[if_neg (by omega)]at I;have Z:(aa.probe z).2.2.1>(aa.probe x).2.2.1:=by
      rcases u with (u|u)|⟨_,_,u|u⟩
      ·omega
      ·exact u
      ·cases u
      ·have:=I.2.2.1.2;have a2:aQ x=x.2.2.2.2.2.1:=rfl;omega
     exact congrArg (λb=>some ((b,()),())) (decide_eq_true Z)
end Go.Proofs.YtaegajachoklkaaGreatEv
