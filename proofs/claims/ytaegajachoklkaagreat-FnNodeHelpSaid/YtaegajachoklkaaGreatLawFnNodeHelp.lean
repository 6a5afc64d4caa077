/- FnNodeHelp: the plain law. -/
import Derived.Test.YtaegajachoklkaaGreatP3
set_option linter.unusedVariables false
set_option linter.unusedSimpArgs false
open Bool renaming not_true->BH
open List renaming mem_singleton->BI,filter_append->BJ,length_append->BK,filter_eq_nil_iff->BL,mem_map->BM,mem_append->BN
open Option renaming bind_some->BG
namespace Go.Proofs.YtaegajachoklkaaGreatEv
open Go
structure x3 (m:aa) (w:ao):Prop where
 on:(aa.probe m).1≠-1
 due:2<=br m-(aa.probe m).2.1
 not:(aa.probe m).2.2.2=false
 node:(a7 m).1=gu m
 to:∃ f∈aa.table m,f.1=w.2.2.2.1/\f.2.2.1=1
 about:w.2.2.2.2.2.1=(aa.probe m).1
 seq:w.2.2.2.2.1=(aa.probe m).2.2.1
theorem ov (m:aa):(a7 m).2.length<=2/\∀ w∈(a7 m).2,x3 m w:=by
 unfold a7;cases J:(aa.probe m).1==-1 with
 |true=>exact⟨by simp,λw r=>by cases r⟩
 |false =>
  simp only[cond_false];cases O:cL (aG (aa.table m) (aa.probe m).1) with
  |false=>exact⟨by simp,λw r=>by cases r⟩
  |true =>
   simp only[BH,cond_false];by_cases z:m.2.2.2.2.2.1-(aa.probe m).2.1>=4
   ·rw[decide_eq_true z];exact⟨by simp,λw r=>by cases r⟩
   rw[decide_eq_false z];by_cases u:m.2.2.2.2.2.1-(aa.probe m).2.1>=2
   ·rw[decide_eq_true u];simp only[cond_false,cond_true];cases I:(aa.probe m).2.2.2 with
    |true=>exact⟨by simp,λw r=>by cases r⟩
    |false =>
     simp only[Bool.not_false,cond_true];refine⟨by rw[List.length_map];exact List.length_take_le _ _,λw r=>?_⟩;obtain⟨to,M,rfl⟩:=BM.1 r;obtain⟨f,y,e⟩:=BM.1 (List.mem_of_mem_take M);obtain⟨y,H⟩:=List.mem_filter.1 y;simp only[nT,Bool.and_eq_true,beq_iff_eq]at H;refine⟨by simpa using J,u,I,?_,⟨f,y,e,H.1.1⟩,rfl,rfl⟩;unfold a7;rw[J,O,I,decide_eq_false z,decide_eq_true u];rfl
   ·rw[decide_eq_false u];exact⟨by simp,λw r=>by cases r⟩
theorem p7 (m:aa)(d:Int):∀ w∈dD m d,w.2.1≠3:=by
 intro w r;unfold dD at r;cases I:aP .i64 d 3==1 with
 |true =>
  rw[I]at r;simp only[cond_true,gw]at r;cases u:gN m with
  |false=>rw[u]at r;cases r
  |true =>
   rw[u]at r;obtain⟨s,_,rfl⟩:=BM.1 r;show (6:Int)≠3;decide
 |false =>
  rw[I]at r;simp only[cond_false]at r;cases y:(aP .i64 d 3==3||decide (bY m=[])) with
  |true=>rw[y]at r;cases r
  |false =>
   rw[y]at r;simp only[cond_false]at r;cases z:aP .i64 d 3==0 with
   |true=>rw[z]at r;rw[BI.1 r];show (4:Int)≠3;decide
   |false =>
    rw[z]at r;simp only[cond_false,lM]at r
    match H:aa.others m with
    |[]=>rw[H]at r;cases r
    |x::_=>rw[H]at r;rw[BI.1 r];show (6:Int)≠3;decide
theorem tA (m:aa):∀ w∈(dE m).2,w.2.1≠3:=by
 intro w r;unfold dE at r;cases h:(aa.probe m).1==-1 with
 |false=>rw[h]at r;cases r
 |true =>
  rw[h]at r;simp only[cond_true,dN]at r;cases u:decide (jm m>=999999) with
  |true=>rw[u]at r;cases r
  |false =>
   rw[u]at r;simp only[cond_false]at r;cases y:hH m with
   |none=>rw[y]at r;cases r
   |some to=>rw[y]at r;rw[BI.1 r];show (1:Int)≠3;decide
def fg (r:List ao):Nat:=(r.filter (λw=>w.2.1==3)).length
theorem AE (n:aa)(r:Int):fg (iY n r)<=2:=by
 unfold fg iY;rw[BJ,BJ,BK,BK];have z:((dE (eQ n).1).2.filter (λw=>w.2.1==3))=[]:=BL.2 λw u=>by simpa using tA _ w u
 have y:((dD (fp n) r).filter (λw=>w.2.1==3))=[]:=BL.2 λw u=>by simpa using p7 _ _ w u
 rw[z,y];exact Nat.le_trans (List.length_filter_le _ _) (ov _).1
theorem zn (n:aa)(u:Int)(w:ao)(r:w∈iY n u)(y:w.2.1=3) :
  fp n=gu (cM (cj n))/\x3 (cM (cj n)) w:=by
 unfold iY at r;rcases BN.1 r with r|r
 ·rcases BN.1 r with r|r
  ·have h:=(ov (cM (cj n))).2 w r;refine⟨?_,h⟩;unfold fp eQ;rw[h.node];unfold dE;rw[show ((aa.probe (gu (cM (cj n)))).1==-1)=false from by
    show ((aa.probe (cM (cj n))).1==-1)=false;simpa using h.on]
   rfl
  ·exact absurd y (tA _ w r)
 ·exact absurd y (p7 _ _ w r)
theorem x4 {r:List ao}{i:Nat}(u:i<r.length):fg (r.take (i+1))=fg (r.take i)+(if r[i].2.1==3 then 1 else 0):=by
 unfold fg;rw[List.take_succ_eq_append_getElem u,BJ,BK];congr 1;by_cases h:r[i].2.1==3 <;> simp[h]
theorem qH (K:Nat)(r:List Int)(hc:xV r)(M:1048577<K):Q232.f K (r,())=some ((true,()),()):=by
 simp only[Q232.f,Q232.pre,zc3ec45];by_cases h:(r.length:Int)>1048576
 ·rw[decide_eq_true h];rfl
 rw[decide_eq_false h];simp only[cond_false];obtain⟨⟨⟨n,H,⟨⟩⟩,⟨⟩⟩,e0,Y⟩:=we K r hc M;have Y:NS 9 n:=Y;rw[e0];simp only[BG];obtain⟨y,u,hy,O,ht,e1,e2,h3⟩:=uC K n H Y.nb M;obtain⟨b,o1,_,o3⟩:=jx K n Y.nb M;rw[e2];simp only[BG];rw[e1];simp only[BG];rw[uz K y hy M];simp only[rb,BG,BH,cond_false];rw[tz K u O ht M];simp only[rb,BG,BH,cond_false];rw[o1];simp only[rb,BG];cases b with
 |false=>rfl
 |true =>
  simp only[BH,cond_false];have hP:=o3.1 rfl;cases hu:n.2.1 with
  |false=>rfl
  |true =>
   cases hg:n.2.2.1 with
   |true=>rfl
   |false =>
    simp only[BH,cond_false];have Z:=UpN.of hP hu;have a0:fg u<=2/\∀ w∈u,w.2.1=3->(∃ f∈aa.table y,f.1=w.2.2.2.1/\f.2.2.1=1)/\ax (aa.table y)/\w.2.2.2.2.2.1=(aa.probe n).1/\w.2.2.2.2.1=(aa.probe n).2.2.1/\(aa.probe n).2.2.2=false /\
      wr .i64 (br y-(aa.probe n).2.1)=br y-(aa.probe n).2.1/\2<=br y-(aa.probe n).2.1/\(aa.probe y).2.2.2=true:=by
     rcases h3 hP with ⟨⟨_,_,hm⟩,rfl,rfl⟩|⟨_,rfl,rfl⟩
     ·refine⟨AE n H,λw O I=>?_⟩;obtain⟨ey,R⟩:=zn n H w O I;obtain⟨X,_,_⟩:=lN Z hm;obtain⟨J,p2⟩:=xZ (cj n);have J:aa.probe (cM (cj n))=aa.probe n:=J;have q1:aa.table (fp n)=aa.table (cM (cj n)):=by rw[ey];rfl
      have q2:br (fp n)=br (cM (cj n)):=by rw[ey];rfl
      have q3:(aa.probe (fp n)).2.2.2=true:=by rw[ey];rfl
      obtain⟨_,r1,r2⟩:=na Z.x (by have:=Z.now1;omega);have r3:=X.x.now0;have r4:=X.now1;have hd:=R.due;rw[J,<- q2]at hd;exact⟨by rw[q1];exact R.to,X.x.table,by rw[R.about,J],by rw[R.seq,J],by rw[<- J];exact R.not,aE (by omega) (by omega),hd,q3⟩
     ·exact⟨by simp[fg],λw O=>by cases O⟩
    obtain⟨k1,k2⟩:=a0;refine eY (step:=λrec a=>Q232.s0 K (r,()) rec a) u.length (λi=>(u,((fg (u.take i):Nat):Int),(i:Int),_)) (rb true) ?_ ?_ (by omega)
    ·intro rec i hi;have hm:=List.getElem_mem hi;simp only[Q232.s0];rw[bo (by omega:(i:Int)<(List.length u:Int)),Int.toNat_natCast,ag hi,ar i (by omega),x4 hi];simp only[cond_true,BG];by_cases I:u[i].2.1=3
     ·obtain⟨⟨f,hf,f1,f2⟩,X,a1,a2,a3,a4,a5,a6⟩:=k2 _ hm I;have hI:=wd K X hf M;rw[f1]at hI;rw[show (u[i].2.1 != 3)=false by rw[I];rfl];simp only[cond_false];refine (congrArg (λo=>Option.bind o _) hI).trans ?_;simp only[BG,BH,cond_false,f2,bne_self_eq_false,a1,a2];refine (congrArg (λb=>bif b then _ else _) a3).trans ?_;refine (congrArg (λz=>bif decide (z<2) then _ else _) a4).trans ?_;refine (congrArg (λb=>bif b then _ else _) (decide_eq_false (show ¬ br y-(aa.probe n).2.1<2 by omega))).trans ?_;refine (congrArg (λb=>bif !b then _ else _) a6).trans ?_;have a9:(fg (u.take i):Int)<=2:=by
       have:fg (u.take i)<=fg u:=by
        unfold fg;exact List.Sublist.length_le (List.Sublist.filter _ (List.take_sublist _ _))
       omega
      rw[aE (n:=(fg (u.take i):Int)+1) (by omega) (by omega),if_pos (by rw[I];rfl)];rfl
     ·rw[show (u[i].2.1 != 3)=true by simpa using I,if_neg (by simpa using I)];rfl
    ·intro rec;simp only[Q232.s0,aR,List.take_length];rw[decide_eq_true (show ((fg u:Nat):Int)<=2 by omega)];rfl
end Go.Proofs.YtaegajachoklkaaGreatEv
