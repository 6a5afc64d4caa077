/- FnNodeSave: the plain law. -/
import Derived.Test.YtadlacffdemoiaaGreatP3
set_option linter.unusedVariables false
set_option linter.unusedSimpArgs false
open List renaming mem_singleton->B5
open Option renaming bind_some->B3,bind->B4
namespace Go.Proofs.YtadlacffdemoiaaGreatEv
open Go
theorem tT (K:Nat){n:aa}(r:Int)(h:UpN n)(I:¬ aZ n<999999)(z:n.2.2.1=false)(u:1048577<K):Q248.f K (n,r,())=some ((n,[],()),()):=by
 obtain⟨b,H,y⟩:=ju K n h.nb u;obtain rfl:b=true:=y.2 h.ok;refine rP K n n [] r h.nb H ?_ u;simp only[Q245.f,zcp4,Q52.f];rw[h.up,z,decide_eq_true (show n.2.2.2.2.2.1>=999999 from Int.not_lt.1 I)];rfl
theorem q8 (K:Nat)(r:List Int)(hc:yj r)(J:1048577<K):Q249.f K (r,())=some ((true,()),()):=by
 simp only[Q249.f];by_cases h:(r.length:Int)>1048576
 ·rw[decide_eq_true h];rfl
 rw[decide_eq_false h];simp only[cond_false];obtain⟨⟨⟨n,v,⟨⟩⟩,⟨⟩⟩,e0,hn⟩:=wG K r hc J;have hn:NS 9 n:=hn;rw[e0];simp only[B3];obtain⟨⟨k,ok,⟨⟩⟩,s1,s2,s3,s4⟩:=sw K n v hn.nb J;obtain⟨b,o1,o2,o3⟩:=uD K n hn.nb J;rw[s1,s2];simp only[B3];rw[o1,o2];simp only[rb,B3,bne_self_eq_false,beq_self_eq_true,cond_false,cond_true];cases ok with
 |false=>rfl
 |true =>
  obtain⟨hP,d,hd,rfl⟩:=s4 rfl;simp only[Bool.not_true,cond_false];rcases Bool.eq_false_or_eq_true n.2.2.1 with hg|hg
  ·exact (congrArg (λb=>bif b then _ else _) hg).trans rfl
  ·refine (congrArg (λb=>bif b then _ else _) hg).trans ?_;simp only[cond_false];have hu:n.2.1=true:=by
    cases hu:n.2.1 with
    |true=>rfl
    |false =>
     have h6:=hP.2.2.2.2.2;rw[if_neg (by rw[hu];decide)]at h6;rw[pq n hn.nb h6]at hd;cases hd
   have z:=UpN.of hP hu;obtain⟨⟨f,hf,f1,f3,f2⟩,_⟩:=z.x.doubts.1 d hd;have hT:Q23.f K (aa.table n,d.1,())=some ((f,true,()),()):=by rw[<- f1];exact qn K z.x.table hf J
   refine (congrArg (λo=>B4 o _) hT).trans ?_;simp only[B3,Q116.f,Q115.f,Q114.f];by_cases h9:f.2.1>=999
   ·rw[decide_eq_true h9];rfl
   rw[decide_eq_false h9];simp only[cond_false];obtain⟨i0,i1⟩:=(z.x.table.1 f hf).2.1;obtain⟨m0,m1⟩:=z.x.me;rw[aA (n:=f.2.1+1) (by omega) (by omega),aA (n:=wr .i64 (n.1+1)+0) (by rw[aA (n:=n.1+1) (by omega) (by omega)];omega) (by rw[aA (n:=n.1+1) (by omega) (by omega)];omega),Int.add_zero];obtain⟨b1,b2,b3⟩:=BM z.x.me 1 ⟨by decide,by decide⟩;generalize wr .i64 (wr .i64 (wr .i64 (Int.tdiv n.1 4)*4)+Int.tmod (wr .i64 (n.1+1)) 4)=fr at b1 b2 b3 ⊢;obtain⟨g,H⟩:∃ g:af,g=(f.1,f.2.1+1,1,f.2.2.2):=⟨_,rfl⟩;have a4:bu g:=by
    rw[H];exact⟨(z.x.table.1 f hf).1,⟨show (0:Int)<=f.2.1+1 by omega,show f.2.1+1<=999 by omega⟩,show (1:Int)<=1 by omega,show (1:Int)<=4 by omega⟩
   have Y:g.1=d.1:=by rw[H];exact f1
   have g3:g.2.2.1=1:=by rw[H]
   have a5:aw [g]:=⟨λx hx=>by rw[B5.1 hx];exact a4,List.pairwise_singleton _ _⟩;have a9:bV [g] (aj n.1):=λx hx=>by rw[B5.1 hx,Y,<- f1];exact z.x.site f hf
   rw[<- H];obtain⟨l1,u,l3,l4⟩:=BL K z hg a5 a9 b1 b2 b3 J;refine (congrArg (λo=>B4 o _) l1).trans ?_;simp only[B3];have a7:g.1≠n.1:=by rw[Y];exact pm z.x z.self hd
   have I:g∈aa.table (dC n [g] fr):=by
    show g∈aa.table (c6 fr n g);unfold c6;rw[show (g.1==n.1)=false by simpa using a7];show g∈aa.table (sayOf n g fr);refine nj z.x.table.2 λg' a3 e'=>?_
    have:g'=f:=fD z.x.table.2 a3 hf (by rw[e',Y,f1]);rw[this,H];unfold bM;rw[if_pos (show f.2.1+1≠f.2.1 by omega)];show f.2.1+1>f.2.1;omega
   generalize dC n [g] fr=x at u l3 l4 I ⊢;have a0:∀ d'∈aa.doubts x,d'.1≠d.1:=λd' Z e'=>by
    obtain⟨⟨q,O,R,M,_⟩,_⟩:=u.x.doubts.1 d' Z;have:q=g:=fD u.x.table.2 O I (by rw[R,e',Y]);rw[this,g3]at M;exact absurd M (by decide)
   obtain⟨⟨k',a1,⟨⟩⟩,t1,_,t4⟩:=wE K x d.1 u.nb J;refine (congrArg (λo=>B4 o _) t1).trans ?_;have a8:a1=false:=by
    cases a1 with
    |false=>rfl
    |true=>obtain⟨_,e,he,e1⟩:=t4 rfl;exact absurd e1 (a0 e he)
   subst a8;obtain⟨y,ws,hy,a2,X⟩:∃ y ws,Q248.f K (x,3,())=some ((y,ws,()),())/\UpN y/\∀ q∈aa.table y,q.1=d.1->q.2.2.1≠3:=by
    by_cases hm:aZ x<999999
    ·refine⟨_,_,wB K x 3 u.nb u l4 hm J,(oj u hm).1,λq O R M=>?_⟩;rcases yt u q O M with h|⟨d',Z,q',_,e1,e2,_⟩
     ·have:q=g:=fD u.x.table.2 h I (by rw[R,Y]);rw[this,g3]at M;exact absurd M (by decide)
     ·refine a0 d' Z ?_;rw[<- e1,<- R,e2];rfl
    ·refine⟨_,_,tT K 3 u hm l4 J,u,λq O R M=>?_⟩;have:q=g:=fD u.x.table.2 O I (by rw[R,Y]);rw[this,g3]at M;exact absurd M (by decide)
   refine (congrArg (λo=>B4 o _) hy).trans ?_;have a6:Q23.f K (aa.table x,d.1,())=some ((g,true,()),()):=by rw[<- Y];exact qn K u.x.table I J
   refine (congrArg (λo=>B4 o _) a6).trans ?_;simp only[B3];obtain⟨q,b',O,ad⟩:∃ (q:af) (b':Bool),Q23.f K (aa.table y,d.1,())=some ((q,b',()),())/\q.2.2.1≠3:=by
    rcases gH K (aa.table y) d.1 (bR a2.x.table) J with ⟨hh,_⟩|⟨_,⟨q,O,R,e⟩|⟨_,e⟩⟩
    ·exact absurd a2.x.table hh
    ·exact⟨q,true,e,X q O R⟩
    ·exact⟨_,false,e,show (0:Int)≠3 by decide⟩
   refine (congrArg (λo=>B4 o _) O).trans ?_;simp only[B3];rw[show Ty.eqv t2 g g=decide (g=g) from jR _ _,decide_eq_true rfl];simp only[cond_true,Bool.not_false];rw[show (q.2.2.1 != 3)=true by simpa using ad]
end Go.Proofs.YtadlacffdemoiaaGreatEv
