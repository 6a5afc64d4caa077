/- FnNodeCast: the plain law. -/
import Derived.Test.YtadlacffdemoiaaGreatP3
set_option linter.unusedVariables false
set_option linter.unusedSimpArgs false
open Bool renaming not_true->BD,false_or->BE
open Int renaming toNat_natCast->BB
open List renaming mem_cons_of_mem->BC
open Option renaming bind_some->BA,bind->BF
namespace Go.Proofs.YtadlacffdemoiaaGreatEv
open Go
def k6 (t:List af)(m:aa):Prop:=∀ g∈aa.table m,g∈t\/((g,4):aF)∈aa.cast m
theorem uY {t:List af}{m:aa}(O:az (aa.table m))(hC:cO (aa.cast m))(Z:gu (aa.table m) (aa.cast m)){f:af}{b:Int}(R:bf f)(h:k6 t m):k6 t (sayOf m f b):=by
 rcases kX O.2 f b with e|⟨e,J⟩
 ·rw[e];exact h
 have y:((f,4):aF)∈aa.cast (sayOf m f b):=yU O.2 J λx H e'=>by
  obtain⟨g,z,Y,X⟩:=Z x H;have I:=(hC.1 x H).1;have J:=J g z (by rw[Y,e']);have r:=O.1 g z;rw[j9 I r]at X;rw[j9 R r]at J;rw[j9 R I];omega
 intro g u;rw[e]at u;have u:g∈bq (λg:af=>g.1) f (aa.table m):=u;rcases aV.1 u with rfl|⟨u,M⟩
 ·exact .inr y
 ·rcases h g u with h|h
  ·exact .inl h
  ·right;rw[e];show ((g,4):aF)∈cC (aa.cast m) f;unfold cC;split
   ·exact h
   ·exact aV.2 (.inr ⟨h,M⟩)
theorem yZ {t:List af}{m:aa}(r:UpN m){f:af}{b:Int}(u:bf f)(h:k6 t m):k6 t (cI b m f):=by
 unfold cI;cases f.1==m.1 with
 |true =>
  show k6 t (dF m f);unfold dF;cases y:decide (bB f (aQ (aa.table m) m.1))&&decide (f.2.1<999) with
  |false=>exact h
  |true =>
   rw[Bool.and_eq_true]at y;exact uY (m:=fW m (f.2.1+1)) r.x.table r.x.cast r.x.vs (nQ r.x.me u (of_decide_eq_true y.2)) h
 |false =>
  show k6 t (iE (sayOf m f b) f b);exact uY (b:=b) r.x.table r.x.cast r.x.vs u h
theorem rr {t:List af}{b:Int}:∀ (fs:List af) (m:aa),UpN m->m.2.2.1=false->(∀ f∈fs,bf f/\ak f.1=ak m.1)->eY m b->k6 t m->k6 t (eO m fs b)
 |[],_,_,_,_,_,h=>h
 |f::fs,m,I,R,y,u,h=>by
  obtain⟨z,O⟩:=y f (List.mem_cons_self ..);obtain⟨J,H,M⟩:=mW I R z O u;show k6 t (eO (cI b m f) fs b);exact rr fs _ J M (λg r=>⟨(y g (BC _ r)).1,by rw[H];exact (y g (BC _ r)).2⟩) ⟨u.1,by rw[H];exact u.2⟩ (yZ I z h)
def qA (l:List aF)(g:af)(i:Nat):Bool:=(l.take i).any λx=>bif decide (x.1=g) then x.2==4 else false
theorem xL {l:List aF}{g:af}{i:Nat}(r:i<l.length):qA l g (i+1)=(qA l g i||(bif decide (l[i].1=g) then l[i].2==4 else false)):=yY (λx:aF=>bif decide (x.1=g) then x.2==4 else false) r
theorem za {l:List aF}{g:af}(r:((g,4):aF)∈l):qA l g l.length=true:=by
 unfold qA;rw[List.take_length,List.any_eq_true];exact⟨_,r,by simp⟩
theorem xM (K:Nat){n:aa}{w:aj}(I:eV n)(y:dz (1,5,w.2.2))(r:fJ n (1,5,w.2.2)):(bC K n (1,5,w.2.2)).2=[]/\k6 (aa.table n) (bC K n (1,5,w.2.2)).1:=by
 have M:bC K n (1,5,w.2.2)=(eO n (aj.table w) w.2.2.1,[]):=by
  unfold bC;rw[if_pos ⟨y,r⟩,if_neg (show ¬ (5:Int)=6 by decide)];rfl
 rw[M];obtain⟨J,H⟩:=iT y r (show (5:Int)≠6 by decide);have u:az (aj.table w):=y.2.2.2.2.2.2.2.1;exact⟨rfl,rr _ n (UpN.of I r.1) r.2.1 (λf z=>⟨u.1 f z,J f z⟩) H λg O=>.inl O⟩
set_option maxHeartbeats 1000000 in
theorem qB (K:Nat)(r:List Int)(hc:xJ r)(R:1048577<K):Q230.f K (r,())=some ((true,()),()):=by
 simp only[Q230.f,Q230.pre,zc3ec45,zcf8680];by_cases h:(r.length:Int)>1048576
 ·rw[decide_eq_true h];rfl
 rw[decide_eq_false h];simp only[cond_false];obtain⟨⟨⟨n,w0,⟨⟩⟩,⟨⟩⟩,e0,O,H⟩:=wa K r hc R;have O:NS 9 n:=O;have H:(aj.table w0).length<=1048576:=H;rw[e0];simp only[BA];obtain⟨y,ws,b,hy,_,_,e1,e2,q1,q2,t1,_,h3⟩:=yX K n (1,5,w0.2.2) O.nb H (show (5:Int)≠2 by decide) R;rw[e2];simp only[BA];rw[e1];simp only[BA];rw[q1];simp only[rb,BA,BD,cond_false];rw[q2];simp only[rb,BA,BD,cond_false];rw[t1];simp only[rb,BA];cases b with
 |false=>rfl
 |true =>
  simp only[BD,cond_false];obtain⟨hP,hW,hT,h4,h5⟩:=h3 rfl;obtain⟨c1,c2⟩:=xM K hP hW hT;rw[<- h4]at c2;obtain rfl:ws=[]:=h5.trans c1;have I:=uu O hP;have a2:=hy.table;have a1:=hy.cast;clear h3 h4 h5 c1;refine er (step:=λrec a=>Q230.s0 K (r,()) (Q230.l1 K (r,()) rec) rec a) (aa.table y).length (λi=>([],(i:Int),_)) (rb true) ?_ ?_ (by omega)
  ·intro rec i Z;have hm:=List.getElem_mem Z;simp only[Q230.s0];rw[bh (by omega:(i:Int)<(List.length (aa.table y):Int)),BB,ag Z,ar i (by omega)];simp only[cond_true,BA];rcases c2 _ hm with z|z
   ·refine (congrArg (λo=>BF o _) (vZ K I z R)).trans ?_;simp only[BA,cond_true];rw[show Ty.eqv t2 (aa.table y)[i] (aa.table y)[i]=decide ((aa.table y)[i]=(aa.table y)[i]) from fI _ _,decide_eq_true rfl];rfl
   ·have M:=za z;obtain⟨g,J,hg⟩:∃ (g:af) (J:Bool),Q139.f K (aa.table n,(aa.table y)[i].1,())=some ((g,J,()),()):=by
     obtain⟨J,e⟩:=kj K (aa.table n) (aa.table y)[i].1 I (bT I) R;exact⟨_,J,e⟩
    refine (congrArg (λo=>BF o _) hg).trans ?_;simp only[BA];have a0:∀ (X Y:Option Q230.Res),X=Y->(bif J then (bif Ty.eqv t2 g (aa.table y)[i] then Y else X) else X)=Y:=λX Y e=>by
     rw[e];cases J <;> cases Ty.eqv t2 g (aa.table y)[i] <;> rfl
    refine a0 _ _ ?_;refine er (k:=K) (step:=λu a=>Q230.s1 K (r,()) rec u a) (aa.cast y).length (λk=>([],(i:Int),qA (aa.cast y) (aa.table y)[i] k,(k:Int),_)) _ ?_ ?_ (by omega)
    ·intro u k hk;simp only[Q230.s1];rw[bh (by omega:(k:Int)<(List.length (aa.cast y):Int)),BB,BB,ag hk,ag Z,ar k (by omega),xL hk];simp only[cond_true,BA];cases qA (aa.cast y) (aa.table y)[i] k with
     |true=>rfl
     |false =>
      rw[show Ty.eqv t2 (aa.cast y)[k].1 (aa.table y)[i]=decide ((aa.cast y)[k].1=(aa.table y)[i]) from fI _ _];cases decide ((aa.cast y)[k].1=(aa.table y)[i]) with
      |true=>simp only[cond_true,cond_false,BE]
      |false=>simp only[cond_true,cond_false,BE]
    ·intro u;simp only[Q230.s1];rw[aP,M,ar i (by omega)];rfl
  ·intro rec;simp only[Q230.s0];rw[aP];rfl
end Go.Proofs.YtadlacffdemoiaaGreatEv
