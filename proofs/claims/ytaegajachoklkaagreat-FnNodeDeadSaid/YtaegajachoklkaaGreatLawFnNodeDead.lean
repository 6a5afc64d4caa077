/- FnNodeDead: the plain law. -/
import Derived.Test.YtaegajachoklkaaGreatP3
set_option linter.unusedVariables false
set_option linter.unusedSimpArgs false
open Bool renaming not_true->BM
open List renaming getElem_of_mem->BN,getElem_mem->BO
open Option renaming bind_some->BK,bind->BL
namespace Go.Proofs.YtaegajachoklkaaGreatEv
open Go
theorem x8 {n:aa}(h:UpX n)(hs:cK n):∀ f∈aa.table (dA n),f∈aa.table n \/
  ∃ d∈aa.doubts n,∃ g∈aa.table n,g.1=d.1/\f=ff g/\gV (aU n) d.2.2.1 d.2.2.2.length=true:=by
 have:=jm (st:=cN) (Inv:=λm=>(UpX m/\cK m/\OnN n m/\aU m=aU n/\∀ f∈aa.table m,f∈aa.table n \/
  ∃ d∈aa.doubts n,∃ g∈aa.table n,g.1=d.1/\f=ff g/\gV (aU n) d.2.2.1 d.2.2.2.length=true)/\∀ g∈aa.table n,∃ M∈aa.table m,M.1=g.1) (ds:=aa.doubts n) (n:=n) ⟨⟨h,hs,OnN.refl n,rfl,λf J=>.inl J⟩,λg I=>⟨g,I,rfl⟩⟩ ?_
 ·exact this.1.2.2.2.2
 ·rintro m d hd ⟨⟨y,H,R,r,hi⟩,X⟩;have a1:=tj h hs hd;unfold cN;cases u:gV m.2.2.2.2.2.1 d.2.2.1 d.2.2.2.length with
  |false=>exact⟨⟨y,H,R,r,hi⟩,X⟩
  |true =>
   have u:gV (aU n) d.2.2.1 d.2.2.2.length=true:=by rw[<- r];exact u
   obtain⟨⟨g,I,e,_⟩,_⟩:=h.doubts.1 d hd;obtain⟨M,z,e'⟩:=X g I;obtain⟨h1,h2,h3⟩:=cE y.table ⟨M,z,e'.trans e⟩;have a0:ao (ff (aC (aa.table m) d.1)).1=ao m.1:=by
    show ao (aC (aa.table m) d.1).1=ao m.1;exact y.site _ h3
   have a2:(ff (aC (aa.table m) d.1)).1≠n.1:=by rw[show (ff (aC (aa.table m) d.1)).1=_ from h2];exact a1
   refine⟨⟨y.said (lL h1) a0 (fh.me y.me),mo y.table.2 R a2 H,R.say _ _,(dj m _ _).2.2.2.2.2.1.trans r,λf J=>?_⟩,λg I=>?_⟩
   ·rcases vg y.table.2 J with rfl|J
    ·rcases hi _ h3 with h4|⟨d',O,M,z,e1,e2,e3⟩
     ·exact .inr ⟨d,hd,_,h4,h2,rfl,u⟩
     ·exact .inr ⟨d',O,M,z,e1,by rw[e2];rfl,e3⟩
    ·exact hi f J
   ·obtain⟨g1,Y,e1⟩:=X g I;obtain⟨g2,Z,e2⟩:=iK (f:=ff (aC (aa.table m) d.1)) (b:=m.1) Y;exact⟨g2,Z,e2.trans e1⟩
theorem x9 {n:aa}(h:UpN n):∀ f∈aa.table (ge n),f.2.2.1=3->f∈aa.table n \/
  ∃ d∈aa.doubts n,∃ g∈aa.table n,g.1=d.1/\f=ff g/\gV (aU n+1) d.2.2.1 d.2.2.2.length=true/\aU (ge n)=aU n+1:=by
 intro f r R;have y:=h.x.later;have z:cK (cX n):=h.self;obtain⟨X,b2,_⟩:=kU y z;obtain⟨p1,p2⟩:=x7 (cX n);obtain⟨I,J⟩:=wk (m:=dA (cX n)) X.table;obtain⟨t1,t2⟩:=wj (fp n).1;have e1:aU (ge n)=aU n+1:=(t2.trans I).trans p2;have r:f∈aa.table (a8 (dA (cX n))).1:=by
  have:aa.table (ge n)=aa.table (a8 (dA (cX n))).1:=t1;rw[<- this];exact r
 rcases J f r with Z|⟨g,u,rfl,g1,g2,g3⟩
 ·rcases x8 y z f Z with h4|⟨d,O,g,u,Y,H,M⟩
  ·exact .inl h4
  ·exact .inr ⟨d,O,g,u,Y,H,M,e1⟩
 ·exact absurd (show (2:Int)=3 from R) (by decide)
theorem qG (K:Nat)(u:List Int)(hc:x3 u)(J:1048577<K):Q235.f K (u,())=some ((true,()),()):=by
 simp only[Q235.f,Q235.pre,zc3ec45];by_cases h:(u.length:Int)>1048576
 ·rw[decide_eq_true h];rfl
 rw[decide_eq_false h];simp only[cond_false];obtain⟨⟨⟨n,Y,⟨⟩⟩,⟨⟩⟩,e0,O⟩:=wg K u hc J;have O:NS 9 n:=O;rw[e0];simp only[BK];obtain⟨y,ws,hy,hw,ht,e1,e2,h3⟩:=uC K n Y O.nb J;obtain⟨b,o1,_,o3⟩:=jA K n O.nb J;rw[e2];simp only[BK];rw[e1];simp only[BK];rw[uz K y hy J];simp only[rb,BK,BM,cond_false];rw[tA K ws hw ht J];simp only[rb,BK,BM,cond_false];rw[o1];simp only[rb,BK];cases b with
 |false=>rfl
 |true =>
  simp only[BM,cond_false];have hP:=o3.1 rfl;have I:=uD O hP;have a3:∀ f∈aa.table y,f.2.2.1=3->f∈aa.table n\/∃ g∈aa.table n,g.1=f.1/\g.2.2.1=2/\g.2.1=f.2.1/\(∃ r:Int,r<=1/\Q118.f K (n,f.1,())=some ((r,true,()),())) /\
    ∀ d∈aa.doubts n,d.1=f.1->wr .i64 (aU y-d.2.2.1)=aU y-d.2.2.1/\3<=aU y-d.2.2.1:=by
   rcases h3 hP with ⟨⟨hu,_,hm⟩,rfl,_⟩|⟨_,rfl,_⟩
   ·intro f X M;have Z:=UpN.of hP hu;rcases x9 Z f X M with h|⟨d,hd,g,hg,g1,rfl,g3,g4⟩
    ·exact .inl h
    ·obtain⟨⟨g0,ad,d1,d2,_⟩,⟨d3,d4⟩,_⟩:=Z.x.doubts.1 d hd;have a4:=gw I.2 hg ad (by rw[g1,d1]);have a0:∀ e∈aa.doubts n,e.1=g.1->e=d:=λe he a2=>by
      obtain⟨i,hi,rfl⟩:=BN he;obtain⟨j,hj,rfl⟩:=BN hd;have:=md Z.x.doubts.2.1 hi hj (by rw[a2,g1]);subst this;rfl
     have a1:(if 6-(d.2.2.2.length:Int)+1<3 then (3:Int) else 6-(d.2.2.2.length:Int)+1)<=aU n+1-d.2.2.1:=of_decide_eq_true g3;have h0:=Z.now1;have b2:=Z.x.now0;obtain⟨r,s2,s3,_⟩:=wn K n g.1 O.nb J;obtain⟨e,he,a6,rfl⟩:=s3 hP d hd g1.symm;have:=a0 e he a6;subst this;refine .inr ⟨g,hg,rfl,by rw[a4];exact d2,rfl,⟨_,?_,s2⟩,λd' a5 e'=>?_⟩
     ·have b3:aU n=n.2.2.2.2.2.1:=rfl;unfold wm ja;split at a1 <;> split <;> split <;> omega
     ·have:=a0 d' a5 e';subst this;rw[g4];refine⟨aA (by omega) (by omega),?_⟩;split at a1 <;> omega
   ·exact λf X _=>.inl X
  have b0:=hy.table;have b1:=O.doubts;refine ez (step:=λrec a=>Q235.s0 K (u,()) (Q235.l1 K (u,()) rec) rec a) (aa.table y).length (λi=>((i:Int),_)) (rb true) ?_ ?_ (by omega)
  ·intro rec i hi;have hm:=BO hi;simp only[Q235.s0,zc59c5b,zce4a04];rw[bk (by omega:(i:Int)<(List.length (aa.table y):Int)),Int.toNat_natCast,af hi,ar i (by omega)];simp only[cond_true,BK];by_cases M:(aa.table y)[i].2.2.1=3
   ·rcases a3 _ hm M with X|⟨g,hg,g1,g2,g3,⟨r,r1,r2⟩,g4⟩
    ·refine (congrArg (λo=>BL o _) (p6 K I X J)).trans ?_;simp only[BK,M,bne_self_eq_false,cond_false,cond_true];rw[show Ty.eqv t2 (aa.table y)[i] (aa.table y)[i]=decide ((aa.table y)[i]=(aa.table y)[i]) from hH _ _,decide_eq_true rfl];rfl
    ·have hI:=p6 K I hg J;rw[g1]at hI;refine (congrArg (λo=>BL o _) hI).trans ?_;simp only[BK,M,bne_self_eq_false,cond_false,cond_true];rw[show Ty.eqv t2 g (aa.table y)[i]=decide (g=(aa.table y)[i]) from hH _ _,decide_eq_false (λe=>by rw[e,M]at g2;revert g2;decide)];simp only[cond_false];refine (congrArg (λo=>BL o _) r2).trans ?_;simp only[BK,BM,cond_false,g2,g3,bne_self_eq_false];rw[decide_eq_false (show ¬ r>1 by omega),cond_false];refine ez (step:=λH a=>Q235.s1 K (u,()) rec H a) (aa.doubts n).length (λk=>((i:Int),(k:Int),_)) _ ?_ ?_ (by omega)
     ·intro H k hk;have a9:=BO hk;simp only[Q235.s1,zcp8];rw[bk (by omega:(k:Int)<(List.length (aa.doubts n):Int)),af hk,ar k (by omega)];simp only[cond_true,BK];by_cases R:(aa.doubts n)[k].1=(aa.table y)[i].1
      ·obtain⟨w1,w2⟩:=g4 _ a9 R;rw[show ((aa.doubts n)[k].1==(aa.table y)[i].1)=true by simpa using R];simp only[cond_true];refine (congrArg (λz=>bif decide (z<3) then _ else _) w1).trans ?_;exact congrArg (λb=>bif b then _ else _) (decide_eq_false (show ¬ aU y-(aa.doubts n)[k].2.2.1<3 by omega))
      ·rw[show ((aa.doubts n)[k].1==(aa.table y)[i].1)=false by simpa using R];rfl
     ·intro H;simp only[Q235.s1,zcp8,aP];rw[ar i (by omega)];rfl
   ·rcases gv K (aa.table n) (aa.table y)[i].1 (cq I) J with ⟨h,_⟩|⟨_,⟨g,_,_,e⟩|⟨_,e⟩⟩
    ·exact absurd I h
    ·refine (congrArg (λo=>BL o _) e).trans ?_;rw[BK,show ((aa.table y)[i].2.2.1 != 3)=true by simpa using M];rfl
    ·refine (congrArg (λo=>BL o _) e).trans ?_;rw[BK,show ((aa.table y)[i].2.2.1 != 3)=true by simpa using M];rfl
  ·intro rec;simp only[Q235.s0,zc59c5b,zce4a04,aP];rfl
end Go.Proofs.YtaegajachoklkaaGreatEv
