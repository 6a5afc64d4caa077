/- FnNodeRefute: the plain law. -/
import Derived.Test.YtadlacffdemoiaaGreatP3
set_option linter.unusedVariables false
set_option linter.unusedSimpArgs false
open Bool renaming not_true->BC
open Int renaming tmod_eq_emod_of_nonneg->BB,tmod->BF
open List renaming length->BD,mem_singleton->BE
open Option renaming bind_some->BA
namespace Go.Proofs.YtadlacffdemoiaaGreatEv
open Go
def nR (l:List aG)(f:af)(i:Nat):Bool:=(l.take i).any λx=>decide (x.1=f)
theorem yT {α:Type}(p:α->Bool){l:List α}{i:Nat}(r:i<l.length):(l.take (i+1)).any p=((l.take i).any p||p l[i]):=by
 rw[List.take_add_one,List.getElem?_eq_getElem r,List.any_append,Option.toList_some,List.any_cons,List.any_nil,Bool.or_false]
theorem vT {l:List aG}{f:af}{i:Nat}(r:i<l.length):nR l f (i+1)=(nR l f i||decide (l[i].1=f)):=yT (λx:aG=>decide (x.1=f)) r
theorem xG {l:List aG}{f:af}{x:aG}(r:x∈l)(e:x.1=f):nR l f l.length=true:=by
 unfold nR;rw[List.take_length,List.any_eq_true];exact⟨x,r,decide_eq_true e⟩
theorem vU {n:aa}(z:UpN n)(hg:n.2.2.1=false){r s:Int}(hi:n.2.2.2.2.1<=r)(h9:r<999)(hs:2<=s)(M:Int) :
  ∃ f:af,f.1=n.1/\f.2.1=r+1/\f.2.2.1=1/\f∈aa.table (dr n [(n.1,r,s,n.2.2.2.1)] M)/\((f,4):aG)∈aa.cast (dr n [(n.1,r,s,n.2.2.2.1)] M)/\(dr n [(n.1,r,s,n.2.2.2.1)] M).2.2.2.2.1=r+1:=by
 obtain⟨c0,c1⟩:=z.inc;have u:((n.1,n.2.2.2.2.1,1,n.2.2.2.1):af)∈aa.table n:=by
  have:=z.self;unfold cW at this;rw[if_neg (by rw[hg];decide)]at this;exact this
 obtain⟨f,X⟩:∃ f:af,f=(n.1,r+1,1,n.2.2.2.1):=⟨_,rfl⟩;have f1:f.1=n.1:=by rw[X]
 have f2:f.2.1=r+1:=by rw[X]
 have f3:f.2.2.1=1:=by rw[X]
 have hx:dr n [(n.1,r,s,n.2.2.2.1)] M=sayOf (eA n (r+1)) f n.1:=by
  show cQ M n (n.1,r,s,n.2.2.2.1)=_;unfold cQ;simp only[beq_self_eq_true,cond_true];unfold dY;have e:aP (aa.table n) n.1=(n.1,n.2.2.2.2.1,1,n.2.2.2.1):=iG z.x.table.2 u;rw[e,decide_eq_true (show r<999 by omega)];have ho:bo (n.1,r,s,n.2.2.2.1) (n.1,n.2.2.2.2.1,1,n.2.2.2.1):=by
   unfold bo;simp only;split
   ·omega
   ·rw[if_pos (by omega)];omega
  rw[decide_eq_true ho,X];rfl
 have y:∀ g∈aa.table (eA n (r+1)),g.1=f.1->bo f g:=λg I Z=>by
  rw[gp z.x.table.2 I u (Z.trans f1)];unfold bo;rw[if_pos (show f.2.1≠n.2.2.2.2.1 by omega)];show f.2.1>n.2.2.2.2.1;omega
 have R:bg f:=by
  rw[X];exact⟨z.x.me,⟨show (0:Int)<=r+1 by omega,show r+1<=999 by omega⟩,show (1:Int)<=1 by omega,show (1:Int)<=4 by omega⟩
 have Y:∀ x∈aa.cast (eA n (r+1)),x.1.1=f.1->bo f x.1:=λx H Z=>by
  have H:x∈aa.cast n:=H;obtain⟨g,I,g1,g2⟩:=z.x.vs x H;have O:=(z.x.cast.1 x H).1;have ho:=y g I (by rw[g1,Z]);have J:=z.x.table.1 g I;rw[j9 O J]at g2;rw[j9 R J]at ho;rw[j9 R O];omega
 rw[hx];exact⟨f,f1,f2,f3,mR (n:=eA n (r+1)) z.x.table.2 y,yQ (n:=eA n (r+1)) z.x.table.2 y Y,(gv (eA n (r+1)) f n.1).2.2.2.2.1⟩
set_option maxHeartbeats 4000000 in
theorem o7 (K:Nat)(u:List Int)(hc:xD u)(M:1048577<K):Q230.f K (u,())=some ((true,()),()):=by
 simp only[Q230.f,Q230.pre,zcf8680];by_cases h:(u.length:Int)>1048576
 ·rw[decide_eq_true h];rfl
 rw[decide_eq_false h];simp only[cond_false];obtain⟨⟨⟨n,w0,⟨⟩⟩,⟨⟩⟩,e0,hn,O⟩:=vS K u hc M;have hn:NS 9 n:=hn;have O:(ak.table w0).length<=1048576:=O;rw[e0];simp only[BA,Q129.f];generalize a1:wr .i64 (wr .i64 (wr .i64 (Int.tdiv n.1 4)*4)+BF (wr .i64 (n.1+1)) 4)=J;generalize a3:wr .i64 (n.2.2.2.2.1+BF (BD w0.2.2.2.2.2.2.2:Int) 3)=r;generalize a0:wr .i64 (2+BF (BD u:Int) 3)=s;obtain⟨y,ws,hy,hl,ht,e1,e2,h3,_⟩:=ul K n (1,5,J,n.1,0,J,(0,0,0,1500),[(n.1,r,s,n.2.2.2.1)]) hn.nb (show 1<=1048576 by decide) (show (5:Int)≠2 by decide) M;obtain⟨b,o1,o2,o3⟩:=oc K n hn.nb M;rw[e2];simp only[BA];rw[e1];simp only[BA];rw[um K y hy M];simp only[rb,BA,BC,cond_false];rw[tm K ws (by omega) ht M];simp only[rb,BA,BC,cond_false];rw[o2,o1];simp only[rb,BA,bne_self_eq_false,cond_false];cases b with
 |false=>rfl
 |true =>
  simp only[BC,cond_false];have hP:=o3.1 rfl;rcases Bool.eq_false_or_eq_true n.2.1 with hu|hu
  case inr=>exact (congrArg (λb=>bif !b then _ else _) hu).trans rfl
  refine (congrArg (λb=>bif !b then _ else _) hu).trans ?_;simp only[BC,cond_false];rcases Bool.eq_false_or_eq_true n.2.2.1 with hg|hg
  ·exact (congrArg (λb=>bif b then _ else _) hg).trans rfl
  refine (congrArg (λb=>bif b then _ else _) hg).trans ?_;simp only[cond_false];by_cases h9:r>=999
  ·rw[decide_eq_true h9];rfl
  rw[decide_eq_false h9];simp only[cond_false];have R:=UpN.of hP hu;obtain⟨c0,c1⟩:=R.inc;have hi:r>=n.2.2.2.2.1:=by
   have a9:(BD w0.2.2.2.2.2.2.2:Int)<=1048576:=by have:(ak.table w0).length<=1048576:=O;exact Int.ofNat_le.2 this
   rw[<- a3,BB (by omega),aH (by omega) (by omega)];omega
  have hs:2<=s/\s<=4:=by
   rw[<- a0,BB (by omega),aH (by omega) (by omega)];omega
  obtain⟨b1,b2,b3⟩:=Bf R.x.me 1 ⟨by decide,by decide⟩;rw[a1]at b1 b2 b3;have a4:bg (n.1,r,s,n.2.2.2.1):=⟨R.x.me,⟨show (0:Int)<=r by omega,show r<=999 by omega⟩,show (1:Int)<=s by omega,hs.2⟩;have a2:az [((n.1,r,s,n.2.2.2.1):af)]:=⟨λx hx=>by rw[BE.1 hx];exact a4,List.pairwise_singleton _ _⟩;have a5:bR [((n.1,r,s,n.2.2.2.1):af)] (aj n.1):=λx hx=>by rw[BE.1 hx]
  have hb:=yP R hg a2 a5 b1 b2 b3;have H:=(nP (w:=(1,5,J,n.1,0,J,(0,0,0,1500),[(n.1,r,s,n.2.2.2.1)])) R M).1;obtain⟨I,_⟩:=h3 ⟨hP,hb.1,hb.2⟩;rw[xE K hb]at I H;obtain⟨f,f1,f2,f3,X,Z,Y⟩:=vU R hg hi (by omega) hs.1 J;have I:y=dr n [(n.1,r,s,n.2.2.2.1)] J:=I;have H:UpN (dr n [(n.1,r,s,n.2.2.2.1)] J):=H;rw[<- I]at X Z Y H;clear I h3;have hT:Q140.f K (aa.table y,n.1,())=some ((f,true,()),()):=by rw[<- f1];exact vR K H.x.table X M
  refine (congrArg (λo=>Option.bind o _) hT).trans ?_;simp only[BA];have a6:=hy.cast;refine eP (k:=K) (step:=λrec a=>Q230.s0 K (u,()) rec a) (aa.cast y).length (λi=>(r,true,nR (aa.cast y) f i,(i:Int),_)) (rb true) ?_ ?_ (by omega)
  ·intro rec i hi;simp only[Q230.s0];rw[bk (by omega:(i:Int)<(BD (aa.cast y):Int)),Int.toNat_natCast,ag hi,ar i (by omega),vT hi];simp only[cond_true,BA];cases nR (aa.cast y) f i with
   |true=>rfl
   |false =>
    rw[show Ty.eqv t2 (aa.cast y)[i].1 f=decide ((aa.cast y)[i].1=f) from gq _ _];rfl
  ·intro rec;simp only[Q230.s0];rw[aQ,xG Z rfl,aH (n:=r+1) (by omega) (by omega)];simp only[cond_false,cond_true];rw[f3,f2];simp only[cond_false,cond_true,beq_self_eq_true];exact (congrArg (λz=>bif z==r+1 then _ else _) Y).trans (by simp[rb])
end Go.Proofs.YtadlacffdemoiaaGreatEv
