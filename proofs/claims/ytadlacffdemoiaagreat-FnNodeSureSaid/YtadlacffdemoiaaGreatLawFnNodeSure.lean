/- FnNodeSure: the plain law. -/
import Derived.Test.YtadlacffdemoiaaGreatP3
set_option linter.unusedVariables false
set_option linter.unusedSimpArgs false
open Int renaming le_refl->BE
open List renaming getElem_of_mem->BC,mem_singleton->BD,mem_map->BG
open Option renaming bind_eq_some_iff->BA,bind_some->BB,bind->BF
namespace Go.Proofs.YtadlacffdemoiaaGreatEv
open Go
theorem Ak (K:Nat){n:aa}{v:Int}{r:Int×Bool×Unit}(h:Q224.f K (n,v,())=some (r,())):0<=r.1:=by
 simp only[Q224.f]at h;obtain⟨y,_,h⟩:=BA.1 h;cases H:decide (y.1.1<0) with
 |true=>rw[H]at h;cases h;exact BE _
 |false =>
  rw[H]at h;simp only[cond_false]at h;obtain⟨J,_,h⟩:=BA.1 h;cases I:!J.1.1 with
  |true=>rw[I]at h;cases h;exact BE _
  |false =>
   rw[I]at h;simp only[cond_false]at h;obtain⟨O,_,h⟩:=BA.1 h;obtain⟨M,_,h⟩:=BA.1 h;cases h;simp only;generalize wr .i64 (M.1.1-wr .i64 (n.2.2.2.2.2.1-O.2.2.1))=z;by_cases u:z<0
   ·rw[decide_eq_true u];exact BE _
   ·rw[decide_eq_false u];exact Int.not_lt.1 u
theorem qA (K:Nat)(y:List Int)(hc:xF y)(M:1048577<K):Q227.f K (y,())=some ((true,()),()):=by
 simp only[Q227.f];by_cases h:(y.length:Int)>1048576
 ·rw[decide_eq_true h];rfl
 rw[decide_eq_false h];simp only[cond_false];obtain⟨⟨⟨n,v,⟨⟩⟩,⟨⟩⟩,e0,X⟩:=vV K y hc M;have X:NS 9 n:=X;rw[e0];simp only[BB];obtain⟨⟨k,ok,⟨⟩⟩,s1,s2,s3,s4⟩:=rU K n v X.nb M;obtain⟨b,o1,o2,o3⟩:=tZ K n X.nb M;have a0:0<=k:=Ak K s2;rw[s1,s2];simp only[BB];rw[o1,o2];simp only[rb,BB,bne_self_eq_false,beq_self_eq_true,cond_false,cond_true];rw[decide_eq_true (show k>=0 from a0)];cases ok with
 |false=>rfl
 |true =>
  obtain⟨hP,d,hd,rfl⟩:=s4 rfl;simp only[Bool.not_true,cond_false];rcases Bool.eq_false_or_eq_true n.2.2.1 with H|H
  ·exact (congrArg (λb=>bif b then _ else _) H).trans rfl
  ·refine (congrArg (λb=>bif b then _ else _) H).trans ?_;simp only[cond_false];have hu:n.2.1=true:=by
    cases hu:n.2.1 with
    |true=>rfl
    |false =>
     have h6:=hP.2.2.2.2.2;rw[if_neg (by rw[hu];decide)]at h6;rw[oV n X.nb h6]at hd;cases hd
   have z:=UpN.of hP hu;obtain⟨e,he,I,hr⟩:=s3 hP d hd rfl;obtain⟨⟨f,hf,f1,f3,f2⟩,⟨d0,d1⟩,dn,ad⟩:=z.x.doubts.1 e he;have hk:k=eY n.2.2.2.2.2.1 e:=congrArg (λr:Int×Bool×Unit=>r.1) hr;have hT:Q22.f K (aa.table n,d.1,())=some ((f,true,()),()):=by rw[<- I,<- f1];exact vS K z.x.table hf M
   refine (congrArg (λo=>BF o _) hT).trans ?_;simp only[BB,Q11.f];obtain⟨b1,b2,b3⟩:=Bh z.x.me 1 ⟨by decide,by decide⟩;generalize wr .i64 (wr .i64 (wr .i64 (Int.tdiv n.1 4)*4)+Int.tmod (wr .i64 (n.1+1)) 4)=u at b1 b2 b3 ⊢;have b0:ax [f]:=⟨λg H=>by rw[BD.1 H];exact z.x.table.1 f hf,List.pairwise_singleton _ _⟩;have a2:bP [f] (ak n.1):=λg H=>by rw[BD.1 H];exact z.x.site f hf
   obtain⟨l1,l2,l3,_⟩:=Bg K z H b0 a2 b1 b2 b3 M;refine (congrArg (λo=>BF o _) l1).trans ?_;simp only[BB];have a3:f.1≠n.1:=by rw[f1];exact ta z.x z.self he
   have hx:cY n [f] u=fG n (aa.table n) (aa.cast n) ((aa.doubts n).map (cF f u)):=by
    show cV u n f=_;unfold cV;rw[show (f.1==n.1)=false by simpa using a3];show iE (sayOf n f u) f u=_;rw[xG z.x.table hf];rfl
   obtain⟨⟨k',a8,⟨⟩⟩,t1,t3,_⟩:=vT K (cY n [f] u) d.1 l2.nb M;have a7:cF f u e∈aa.doubts (cY n [f] u):=by rw[hx];exact BG.2 ⟨e,he,rfl⟩
   have R:cF f u e=(e.1,e.2.1,e.2.2.1,bi (λx:Int=>x) u e.2.2.2):=by
    unfold cF;rw[f1,f2,f3];simp
   obtain⟨e',O,e1,J⟩:=t3 l2.ok _ a7 (by rw[R];exact I);have b4:e'=cF f u e:=by
    rw[hx]at O;obtain⟨e2,a4,rfl⟩:=BG.1 O;have b5:(cF f u e2).1=e2.1:=by unfold cF;cases e2.1==f.1&&e2.2.1==f.2.1&&f.2.2.1==2 <;> rfl
    obtain⟨i,hi,rfl⟩:=BC a4;obtain⟨j,hj,rfl⟩:=BC he;have:=lW z.x.doubts.2.1 hi hj (by rw[<- b5,e1,I]);subst this;rfl
   have a5:(cY n [f] u).2.2.2.2.2.1=n.2.2.2.2.2.1:=by rw[hx];rfl
   rw[a5,b4,R]at J;refine (congrArg (λo=>BF o _) t1).trans ?_;have a9:k'=eY n.2.2.2.2.2.1 (e.1,e.2.1,e.2.2.1,bi (λx:Int=>x) u e.2.2.2):=congrArg (λr:Int×Bool×Unit=>r.1) J;have Z:a8=true:=congrArg (λr:Int×Bool×Unit=>r.2.1) J;subst Z;simp only[BB,cond_true];have Y:e.2.2.2.length<=(bi (λx:Int=>x) u e.2.2.2).length:=Ai ad.2;have a6:1<=e.2.2.2.length:=List.length_pos_iff.2 dn;have a1:k'<=k/\k<=6:=by
    rw[hk,a9];unfold eY c6;simp only;generalize (bi (λx:Int=>x) u e.2.2.2).length=m at Y;generalize e.2.2.2.length=m' at Y a6;generalize n.2.2.2.2.2.1=b6 at d1;constructor <;> (repeat' split) <;> omega
   rw[decide_eq_true a1.1];simp only[cond_true,Q226.f];rw[decide_eq_true (show k>=0 from a0),decide_eq_true a1.2];rfl
end Go.Proofs.YtadlacffdemoiaaGreatEv
