/- What is ok of facts, tables, casts: the program and the specification say the same. -/
import Derived.Test.YtadlacffdemoiaaGreatFns
import Derived.Test.YtadlacffdemoiaaGreatP0
set_option linter.unusedVariables false
set_option linter.unusedSimpArgs false
open Bool renaming not_true->B7,false_eq_true->CA,not_false->CJ
open Classical renaming not_not->B6
open Int renaming natCast_nonneg->CC
open List renaming length->B3,getElem_mem->B5,getElem?_eq_getElem->B8,getElem_of_mem->B9,drop_eq_getElem_cons->CD,pairwise_map->CE,filter_cons->CF,drop_of_length_le->CG,take_of_length_le->CH,length_singleton->CI,take_add_one->CL,getElem?_map->CM,mem_filter->CO,drop_zero->CP,mem_map->CQ
open Nat renaming zero_le->CB,le_refl->CN
open Option renaming bind_some->B4
open Prod.mk renaming injEq->CK
namespace Go.Proofs.YtadlacffdemoiaaGreatEv
open Go
abbrev InP (n r u:Int):Prop:=r<=n/\n<=u
theorem eP (K:Nat)(n r u:Int):Ret (Q13.f K (n,r,u,())) (InP n r u):=by
 simp only[Q13.f];exact Ret.cnd (by simp) λ_=>Ret.dec
theorem cM (K:Nat)(n r u:Int):Ret (Q98.f K (n,r,u,())) (InP n r u):=by
 simp only[Q98.f];exact Ret.cnd (by simp) λ_=>Ret.dec
theorem Ret.id {o:Option RB}{P:Prop}(h:Ret o P):Ret (o.bind λy=>some ((y.1.1,()),())) P:=by
 obtain⟨b,r,u⟩:=h;exact⟨b,by rw[r];rfl,u⟩
theorem Ret.neg {o:Option RB}{P:Prop}(h:Ret o P):Ret (o.bind λy=>some ((!y.1.1,()),())) (¬ P):=by
 obtain⟨b,r,u⟩:=h;exact⟨!b,by rw[r];rfl,by cases b <;> simp_all⟩
def bu (f:af):Prop:=InP f.1 0 7/\InP f.2.1 0 999/\InP f.2.2.1 1 4
theorem jt (K:Nat)(n:Int):Ret (Q14.f K (n,())) (InP n 0 7):=(eP K n 0 7).id
theorem mo (K:Nat)(f:af):Ret (Q16.f K (f,())) (bu f) :=
 Ret.and (jt K f.1) (λ_=>Ret.and (eP K f.2.1 0 999) (λ_=>(eP K f.2.2.1 1 4).id) rfl) rfl
theorem pc (K:Nat)(f:af):Ret (Q99.f K (f,())) (bu f) :=
 Ret.and (cM K f.1 0 7) (λ_=>Ret.and (cM K f.2.1 0 999) (λ_=>(cM K f.2.2.1 1 4).id) rfl) rfl
def aw (t:List af):Prop:=(∀ f∈t,bu f)/\Asc (λf:af=>f.1) t
theorem tg {t:List af}:aw t<->∀ j,j<t.length->∃ h:j<t.length,bu t[j]/\(0<j->(t[j-1]'(by omega)).1<t[j].1):=by
 unfold aw;rw[dQ,hI];constructor
 ·rintro⟨h1,h2⟩ j hj;exact⟨hj,h1 j hj,λr=>h2 j hj r⟩
 ·intro h;exact⟨λi u=>(h i u).2.1,λi u r=>(h i u).2.2 r⟩
theorem fq {P:Prop}:(P/\True)<->P:=by simp
theorem gF (K:Nat)(t:List af)(J:t.length<=1048576)(M:1048577<K):Ret (Q100.f K (t,())) (aw t):=by
 refine Ret.iff (qJ (step:=λrec a=>Q100.s0 K (t,()) rec a) t.length (λi=>(i:Int)) (λj=>∃ h:j<t.length,bu t[j]/\(0<j->(t[j-1]'(by omega)).1<t[j].1)) (Q:=True) (rt:=rb true) ?_ ?_ (by omega) (λ_=>Ret.yes trivial)) (fq.trans tg.symm)
 ·intro rec i y;simp only[Q100.s0];rw[decide_eq_true (by omega:(i:Int)<(B3 t:Int)),ag y,ar i (by omega)];simp only[cond_true,B4];obtain⟨b,H,u⟩:=pc K t[i];rw[H];simp only[B4];cases b with
  |false=>exact .inr ⟨λ⟨_,r,_⟩=>by simpa using u.2 r,rfl⟩
  |true =>
   simp only[B7,cond_false];by_cases z:(i:Int)>0
   ·rw[decide_eq_true z,fe i (by omega) (by omega),ag (by omega:i-1<t.length)];simp only[cond_true,B4];by_cases r:(t[i-1]'(by omega)).1>=t[i].1
    ·rw[decide_eq_true r];exact .inr ⟨λ⟨_,_,I⟩=>by have:=I (by omega);omega,rfl⟩
    ·rw[decide_eq_false r];exact .inl ⟨⟨y,u.1 rfl,λ_=>by omega⟩,rfl⟩
   ·rw[decide_eq_false z];exact .inl ⟨⟨y,u.1 rfl,λ_=>by omega⟩,rfl⟩
 ·intro rec;simp only[Q100.s0];rw[decide_eq_false (by omega:¬ ((t.length:Int)<(B3 t:Int)))];rfl
theorem fU (K:Nat)(t:List af)(J:t.length<=1048576)(M:1048577<K):Ret (Q17.f K (t,())) (aw t):=by
 refine Ret.iff (qJ (step:=λrec a=>Q17.s0 K (t,()) rec a) t.length (λi=>(i:Int)) (λj=>∃ h:j<t.length,bu t[j]/\(0<j->(t[j-1]'(by omega)).1<t[j].1)) (Q:=True) (rt:=rb true) ?_ ?_ (by omega) (λ_=>Ret.yes trivial)) (fq.trans tg.symm)
 ·intro rec i y;simp only[Q17.s0];rw[decide_eq_true (by omega:(i:Int)<(B3 t:Int)),ag y,ar i (by omega)];simp only[cond_true,B4];obtain⟨b,H,u⟩:=mo K t[i];rw[H];simp only[B4];cases b with
  |false=>exact .inr ⟨λ⟨_,r,_⟩=>by simpa using u.2 r,rfl⟩
  |true =>
   simp only[B7,cond_false];by_cases z:(i:Int)>0
   ·rw[decide_eq_true z,fe i (by omega) (by omega),ag (by omega:i-1<t.length)];simp only[cond_true,B4];by_cases r:t[i].1<=(t[i-1]'(by omega)).1
    ·rw[decide_eq_true r];exact .inr ⟨λ⟨_,_,I⟩=>by have:=I (by omega);omega,rfl⟩
    ·rw[decide_eq_false r];exact .inl ⟨⟨y,u.1 rfl,λ_=>by omega⟩,rfl⟩
   ·rw[decide_eq_false z];exact .inl ⟨⟨y,u.1 rfl,λ_=>by omega⟩,rfl⟩
 ·intro rec;simp only[Q17.s0];rw[decide_eq_false (by omega:¬ ((t.length:Int)<(B3 t:Int)))];rfl
inductive vW (t:List af) (node:Int):Option Nat->Prop where
 |at_ (i:Nat) (h:i<t.length) (e:t[i].1=node):vW t node (some i)
 |no (h:∀ f∈t,f.1≠node):vW t node none
theorem fP (K:Nat)(t:List af)(r:Int)(J:t.length<=1048576)(M:1048577<K) :
  ∃ o,vW t r o/\Q103.f K (t,r,())=some (((match o with|some i=>((i:Nat):Int)|none=>-1),()),()):=by
 have:=bL (step:=λrec a=>Q103.s0 K (t,r,()) rec a) t.length (λi=>(i:Int)) (λj=>∃ h:j<t.length,t[j].1=r) (some ((-1,()),())) (λj=>some ((((j:Nat):Int),()),())) ?_ ?_ t.length K 0 (by omega) (by omega)
 ·rcases this with ⟨y,z⟩|⟨j,_,y,⟨H,I⟩,_,z⟩
  ·refine⟨none,.no ?_,z⟩;rw[dQ];exact λi u e=>y i (CB _) u ⟨u,e⟩
  ·exact⟨some j,.at_ j H I,z⟩
 ·intro rec i u;simp only[Q103.s0];rw[decide_eq_true (by omega:(i:Int)<(B3 t:Int)),ag u,ar i (by omega)];simp only[cond_true,B4];by_cases h:t[i].1=r
  ·right;refine⟨⟨u,h⟩,?_⟩;have:(t[i].1==r)=true:=by simpa using h
   rw[this];rfl
  ·left;refine⟨λ⟨_,y⟩=>h y,?_⟩;have:(t[i].1==r)=false:=by simpa using h
   rw[this];rfl
 ·intro rec;simp only[Q103.s0];rw[decide_eq_false (by omega:¬ ((t.length:Int)<(B3 t:Int)))];rfl
def fQ (a b:Int):Int:=if a<b then -1 else if a>b then 1 else 0
theorem nZ (K:Nat)(a b:Int):Q20.f K (a,b,())=some ((fQ a b,()),()):=by
 have y:∀ x:Int,Q19.f K (x,())=rb false:=λx=>by simp[Q19.f]
 simp only[Q20.f,y,B4,cond_false,fQ];by_cases r:a<b
 ·rw[decide_eq_true r,if_pos r];rfl
 ·rw[decide_eq_false r,if_neg r];by_cases u:a>b
  ·rw[decide_eq_true u,if_pos u];rfl
  ·rw[decide_eq_false u,if_neg u];rfl
theorem th (a b:Int):fQ a b<0<->a<b:=by
 unfold fQ;by_cases r:a<b
 ·simp[r]
 ·by_cases u:a>b <;> simp[r,u]
theorem u7 (a b:Int):fQ a b>0<->a>b:=by
 unfold fQ;by_cases r:a<b
 ·simp[r];omega
 ·by_cases u:a>b <;> simp[r,u]
theorem iE (a b:Int):fQ a b=0<->a=b:=by
 unfold fQ;by_cases r:a<b
 ·simp[r];omega
 ·by_cases u:a>b <;> simp[r,u] <;> omega
structure Cut (t:List af) (node:Int) (m:Nat):Prop where
 le:m<=t.length
 lo:∀ i,(h:i<t.length)->i<m->t[i].1<node
 hi:∀ i,(h:i<t.length)->m<=i->node<=t[i].1
theorem tj (K:Nat)(t:List af)(r:Int)(ht:t.length<=1048576)(J:Asc (λf:af=>f.1) t)(hK:1048577<K) :
  ∃ m,Cut t r m/\Q22.f K (t,r,())=some ((((m:Nat):Int),decide (∃ h:m<t.length,t[m].1=r),()),()):=by
 let ks:Nat->Int:=λi=>if h:i<t.length then t[i].1 else 0
 have u:∀ i (h:i<t.length),ks i=t[i].1:=λi h=>by simp[ks,h]
 let H:Nat->Option ((Int×Bool×Unit)×Unit):=λm=>some ((((m:Nat):Int),decide (∃ h:m<t.length,t[m].1=r),()),())
 have Y:∀ f:af,((Q21.f K (f,r,())).map λy=>y.1.1)=some (fQ f.1 r):=λf=>by
  simp only[Q21.f];rw[nZ];rfl
 have:=pQ (step:=λrec a=>Q18.s0 K (t,r,(λI=>(Q21.f K (I.1,I.2.1,())).map λy=>y.1.1),()) rec a) (ks:=ks) (n:=t.length) (t:=r) H ht
  (λi j R Z=>by
   rw[u i (by omega),u j Z];exact cI.1 J i j (by omega) Z R) ?_ ?_ t.length K 0 t.length (by omega) (CB _) (CN _) (by omega) (λi M=>by omega) (λi M hn=>by omega)
 ·obtain⟨m,z,O,h3,h4⟩:=this;refine⟨m,⟨z,λi h M=>by rw[<- u i h];exact O i M,λi h M=>by rw[<- u i h];exact h3 i M h⟩,?_⟩;simp only[Q22.f];have e:Q18.f K (t,r,(λI=>(Q21.f K (I.1,I.2.1,())).map λy=>y.1.1),())=H m:=h4;rw[e];rfl
 ·intro rec a b a0 hb;have X:(a+b) / 2<t.length:=by omega
  simp only[Q18.s0];rw[decide_eq_true (by omega:(a:Int)<(b:Int)),nY (by omega)];simp only[cond_true];rw[ag X];simp only[B4,Y];rw[u _ X,ar _ (by omega)];by_cases h:t[(a+b) / 2].1<r
  ·rw[if_pos h,decide_eq_true ((th _ _).2 h)];rfl
  ·rw[if_neg h,decide_eq_false (λz=>h ((th _ _).1 z))];rfl
 ·intro rec a ha;simp only[Q18.s0];rw[decide_eq_false (by omega)];simp only[cond_false];by_cases h:a<t.length
  ·rw[decide_eq_true (by omega:(a:Int)<(B3 t:Int)),ag h];simp only[cond_true,B4,Y,H];congr 3;by_cases z:t[a].1=r
   ·have:(fQ t[a].1 r==0)=true:=by simpa using (iE t[a].1 r).2 z
    rw[this,decide_eq_true ⟨h,z⟩]
   ·have:(fQ t[a].1 r==0)=false:=by
     rw[beq_eq_false_iff_ne];exact λe=>z ((iE _ _).1 e)
    rw[this,decide_eq_false (λ⟨_,O⟩=>z O)]
  ·rw[decide_eq_false (by omega)];simp only[cond_false,H];rw[decide_eq_false (λ⟨z,_⟩=>h z)]
def aj (n:Int):Int:=wr .i64 (Int.tdiv n 4)
theorem eQ (K:Nat)(n:Int):Q102.f K (n,())=some ((aj n,()),()):=rfl
theorem m7 (K:Nat)(n:Int):Q26.f K (n,())=some ((aj n,()),()):=rfl
theorem n9 (K:Nat)(n:aa):Q29.f K (n,())=some ((aj n.1,()),()):=rfl
abbrev aa.table (n:aa):List af:=n.2.2.2.2.2.2.2.2.1
abbrev aa.cast (n:aa):List aM:=n.2.2.2.2.2.2.2.2.2.1
abbrev aa.probe (n:aa):af:=n.2.2.2.2.2.2.2.2.2.2.1
abbrev aa.doubts (n:aa):List bt:=n.2.2.2.2.2.2.2.2.2.2.2.1
abbrev aa.coord (n:aa):dJ:=n.2.2.2.2.2.2.2.2.2.2.2.2.1
abbrev aa.places (n:aa):List dV:=n.2.2.2.2.2.2.2.2.2.2.2.2.2.1
abbrev aa.others (n:aa):List ce:=n.2.2.2.2.2.2.2.2.2.2.2.2.2.2
structure NB (n:aa):Prop where
 table:(aa.table n).length<=1048576
 cast:(aa.cast n).length<=1048576
 doubts:(aa.doubts n).length<=1048576
 by_:∀ d∈aa.doubts n,d.2.2.2.length<=1048576
 places:(aa.places n).length<=1048576
 trips:∀ p∈aa.places n,p.2.2.length<=1048576
 others:(aa.others n).length<=1048576
 facts:∀ x∈aa.others n,x.2.length<=1048576
def bV (t:List af)(s:Int):Prop:=∀ f∈t,aj f.1=s
theorem gG (K:Nat)(t:List af)(s:Int)(u:t.length<=1048576)(y:1048577<K):Ret (Q101.f K (t,s,())) (bV t s):=by
 refine (gE t (step:=λrec a=>Q101.s0 K (t,s,()) rec a) (λi r=>¬ aj t[i].1≠s) u ?_ ?_ y (λ_=>Ret.yes trivial)).iff (fq.trans ?_)
 ·intro rec i r;simp only[Q101.s0];rw[decide_eq_true (by omega:(i:Int)<(B3 t:Int))];exact Rnd.ix (ag r) ((Rnd.cndN (P:=aj t[i].1≠s) (by simp[aj]) (λ_=>Rnd.end_)).iff (by simp))
 ·intro rec;simp only[Q101.s0];rw[decide_eq_false (by omega:¬ ((t.length:Int)<(B3 t:Int)))];rfl
 ·rw[bV,dQ];exact⟨λh i r=>B6.1 (h i r),λh i r=>B6.2 (h i r)⟩
theorem xt (K:Nat)(t:List af)(y:af×Unit->Option Bool)(p:af->Prop)(R:t.length<=1048576)(X:1048577<K)(hφ:∀ f∈t,∃ b,y (f,())=some b/\(b=true<->p f)) :
  Ret (Q25.f K (t,y,())) (∃ f∈t,p f):=by
 have:=bL (step:=λrec a=>Q24.s0 K (t,y,()) rec a) t.length (λi=>(i:Int)) (λj=>∃ h:j<t.length,p t[j]) (some ((-1,()),())) (λj=>some ((((j:Nat):Int),()),())) ?_ ?_ t.length K 0 (by omega) (by omega)
 ·simp only[Q25.f];rcases this with ⟨z,r⟩|⟨j,_,z,⟨J,M⟩,_,r⟩
  ·have e:Q24.f K (t,y,())=some ((-1,()),()):=r;rw[e];refine Ret.of ?_;simp only[ge_iff_le,decide_eq_true_eq];refine⟨λh=>absurd h (by decide),λ⟨f,I,O⟩=>?_⟩;obtain⟨i,u,H⟩:=B9 I;exact absurd ⟨u,H ▸ O⟩ (z i (CB _) u)
  ·have e:Q24.f K (t,y,())=some ((((j:Nat):Int),()),()):=r;rw[e];refine Ret.of ?_;simp only[ge_iff_le,decide_eq_true_eq];exact⟨λ_=>⟨t[j],B5 J,M⟩,λ_=>CC j⟩
 ·intro rec i u;simp only[Q24.s0];rw[decide_eq_true (by omega:(i:Int)<(B3 t:Int)),ag u,ar i (by omega)];simp only[cond_true,B4];obtain⟨b,z,r⟩:=hφ t[i] (B5 u);rw[z];simp only[B4];cases b with
  |true=>exact .inr ⟨⟨u,r.1 rfl⟩,rfl⟩
  |false=>exact .inl ⟨λ⟨_,h⟩=>by simpa using r.2 h,rfl⟩
 ·intro rec;simp only[Q24.s0];rw[decide_eq_false (by omega:¬ ((t.length:Int)<(B3 t:Int)))];rfl
theorem rD (K:Nat)(t:List aM)(y:aM×Unit->Option Bool)(p:aM->Prop)(R:t.length<=1048576)(X:1048577<K)(hφ:∀ f∈t,∃ b,y (f,())=some b/\(b=true<->p f)) :
  Ret (Q31.f K (t,y,())) (∃ f∈t,p f):=by
 have:=bL (step:=λrec a=>Q30.s0 K (t,y,()) rec a) t.length (λi=>(i:Int)) (λj=>∃ h:j<t.length,p t[j]) (some ((-1,()),())) (λj=>some ((((j:Nat):Int),()),())) ?_ ?_ t.length K 0 (by omega) (by omega)
 ·simp only[Q31.f];rcases this with ⟨z,r⟩|⟨j,_,z,⟨J,M⟩,_,r⟩
  ·have e:Q30.f K (t,y,())=some ((-1,()),()):=r;rw[e];refine Ret.of ?_;simp only[ge_iff_le,decide_eq_true_eq];refine⟨λh=>absurd h (by decide),λ⟨f,I,O⟩=>?_⟩;obtain⟨i,u,H⟩:=B9 I;exact absurd ⟨u,H ▸ O⟩ (z i (CB _) u)
  ·have e:Q30.f K (t,y,())=some ((((j:Nat):Int),()),()):=r;rw[e];refine Ret.of ?_;simp only[ge_iff_le,decide_eq_true_eq];exact⟨λ_=>⟨t[j],B5 J,M⟩,λ_=>CC j⟩
 ·intro rec i u;simp only[Q30.s0];rw[decide_eq_true (by omega:(i:Int)<(B3 t:Int)),ag u,ar i (by omega)];simp only[cond_true,B4];obtain⟨b,z,r⟩:=hφ t[i] (B5 u);rw[z];simp only[B4];cases b with
  |true=>exact .inr ⟨⟨u,r.1 rfl⟩,rfl⟩
  |false=>exact .inl ⟨λ⟨_,h⟩=>by simpa using r.2 h,rfl⟩
 ·intro rec;simp only[Q30.s0];rw[decide_eq_false (by omega:¬ ((t.length:Int)<(B3 t:Int)))];rfl
theorem yT (K:Nat)(t:List Int)(y:Int×Unit->Option Bool)(p:Int->Prop)(R:t.length<=1048576)(X:1048577<K)(hφ:∀ f∈t,∃ b,y (f,())=some b/\(b=true<->p f)) :
  Ret (Q47.f K (t,y,())) (∃ f∈t,p f):=by
 have:=bL (step:=λrec a=>Q46.s0 K (t,y,()) rec a) t.length (λi=>(i:Int)) (λj=>∃ h:j<t.length,p t[j]) (some ((-1,()),())) (λj=>some ((((j:Nat):Int),()),())) ?_ ?_ t.length K 0 (by omega) (by omega)
 ·simp only[Q47.f];rcases this with ⟨z,r⟩|⟨j,_,z,⟨J,M⟩,_,r⟩
  ·have e:Q46.f K (t,y,())=some ((-1,()),()):=r;rw[e];refine Ret.of ?_;simp only[ge_iff_le,decide_eq_true_eq];refine⟨λh=>absurd h (by decide),λ⟨f,I,O⟩=>?_⟩;obtain⟨i,u,H⟩:=B9 I;exact absurd ⟨u,H ▸ O⟩ (z i (CB _) u)
  ·have e:Q46.f K (t,y,())=some ((((j:Nat):Int),()),()):=r;rw[e];refine Ret.of ?_;simp only[ge_iff_le,decide_eq_true_eq];exact⟨λ_=>⟨t[j],B5 J,M⟩,λ_=>CC j⟩
 ·intro rec i u;simp only[Q46.s0];rw[decide_eq_true (by omega:(i:Int)<(B3 t:Int)),ag u,ar i (by omega)];simp only[cond_true,B4];obtain⟨b,z,r⟩:=hφ t[i] (B5 u);rw[z];simp only[B4];cases b with
  |true=>exact .inr ⟨⟨u,r.1 rfl⟩,rfl⟩
  |false=>exact .inl ⟨λ⟨_,h⟩=>by simpa using r.2 h,rfl⟩
 ·intro rec;simp only[Q46.s0];rw[decide_eq_false (by omega:¬ ((t.length:Int)<(B3 t:Int)))];rfl
theorem Ret.fn {o:Option RB}{P:Prop}(h:Ret o P):∃ b,(o.map λy=>y.1.1)=some b/\(b=true<->P):=by
 obtain⟨b,r,u⟩:=h;exact⟨b,by rw[r];rfl,u⟩
theorem kJ (K:Nat)(t:List af)(s:Int)(H:t.length<=1048576)(I:1048577<K):Ret (Q28.f K (t,s,())) (bV t s):=by
 refine (Ret.neg (xt K t (λz=>(Q27.f K (z.1,s,())).map λy=>y.1.1) (λf=>aj f.1≠s) H I (λf _=>?_))).iff ?_
 ·exact⟨_,rfl,by simp[aj]⟩
 ·exact⟨λh f u=>B6.1 λr=>h ⟨f,u,r⟩,λh ⟨f,u,r⟩=>r (h f u)⟩
theorem gH (K:Nat)(t:List af)(r:Int)(M:t.length<=1048576)(O:1048577<K) :
  (¬ aw t/\Q23.f K (t,r,())=some (((0,(0,(0,false))),false,()),())) \/
  (aw t/\((∃ f∈t,f.1=r/\Q23.f K (t,r,())=some ((f,true,()),()))\/((∀ f∈t,f.1≠r)/\Q23.f K (t,r,())=some (((0,(0,(0,false))),false,()),())))):=by
 simp only[Q23.f];obtain⟨b,R,H⟩:=fU K t M O;rw[R];simp only[B4];cases b with
 |false=>exact .inl ⟨λh=>by simpa using H.2 h,rfl⟩
 |true =>
  have y:=H.1 rfl;obtain⟨m,I,X⟩:=tj K t r M y.2 O;refine .inr ⟨y,?_⟩;simp only[B7,cond_false,X,B4];by_cases h:∃ h:m<t.length,t[m].1=r
  ·rw[decide_eq_true h];obtain⟨u,J⟩:=h;left;refine⟨t[m],B5 u,J,?_⟩;simp only[B7,cond_false];rw[ag u];rfl
  ·rw[decide_eq_false h];right;refine⟨?_,rfl⟩;rw[dQ];intro i z e;rcases Nat.lt_trichotomy i m with u|u|u
   ·have:=I.lo i z u;omega
   ·subst u;exact h ⟨z,e⟩
   ·have J:=I.hi m (by omega) (CN _);have Y:=cI.1 y.2 m i (by omega) z u;omega
def bM (f g:af):Prop:=if f.2.1≠g.2.1 then f.2.1>g.2.1 else if f.2.2.1≠g.2.2.1 then f.2.2.1>g.2.2.1 else f.2.2.2=true/\g.2.2.2=false
theorem tk (K:Nat)(f g:af):Ret (Q106.f K (f,g,())) (bM f g):=by
 simp only[Q106.f,bM];by_cases r:f.2.1=g.2.1
 ·have e:(f.2.1 != g.2.1)=false:=by simpa using r
  rw[e,if_neg (by simpa using r)];by_cases u:f.2.2.1=g.2.2.1
  ·have e:(f.2.2.1 != g.2.2.1)=false:=by simpa using u
   rw[e,if_neg (by simpa using u)];exact (Ret.cnd (b:=f.2.2.2) Iff.rfl (λ_=>Ret.of (b:=!g.2.2.2) (by simp))).iff Iff.rfl
  ·have e:(f.2.2.1 != g.2.2.1)=true:=by simpa using u
   rw[e,if_pos u];exact Ret.dec
 ·have e:(f.2.1 != g.2.1)=true:=by simpa using r
  rw[e,if_pos r];exact Ret.dec
def orI:List Int->Int
 |[]=>0
 |x::r=>if x≠0 then x else orI r
theorem Bj (K:Nat)(xs:List Int)(J:xs.length<=1048576)(M:1048577<K):Q35.f K (xs,())=some ((orI xs,()),()):=by
 have u:∀ (d k i:Nat),i+d=xs.length->d<k->ae (λrec a=>Q35.s0 K (xs,()) rec a) k (i:Int)=some ((orI (xs.drop i),()),()):=by
  intro d;induction d with
  |zero =>
   intro k i I H;obtain⟨k,rfl⟩:∃ z,k=z+1:=⟨k-1,by omega⟩;show Q35.s0 K (xs,()) _ _=_;simp only[Q35.s0];rw[decide_eq_false (by omega:¬ ((i:Int)<(B3 xs:Int))),CG (by omega)];rfl
  |succ d y =>
   intro k i I H;obtain⟨k,rfl⟩:∃ z,k=z+1:=⟨k-1,by omega⟩;have y:=y k (i+1) (by omega) (by omega);show Q35.s0 K (xs,()) _ _=_;simp only[Q35.s0];have r:i<xs.length:=by omega
   rw[decide_eq_true (by omega:(i:Int)<(B3 xs:Int)),ag r,ar i (by omega),CD r];simp only[cond_true,B4,orI];by_cases h:xs[i]=0
   ·have e:(xs[i] != 0)=false:=by simpa using h
    rw[e,if_neg (by simpa using h)];exact y
   ·have e:(xs[i] != 0)=true:=by simpa using h
    rw[e,if_pos h];rfl
 have:=u xs.length K 0 (by omega) (by omega)
 rwa [CP]at this
def cmpF (f g:af):Int:=orI [fQ f.1 g.1,fQ f.2.1 g.2.1,fQ f.2.2.1 g.2.2.1,if f.2.2.2=true/\g.2.2.2=false then 1 else if g.2.2.2=true/\f.2.2.2=false then -1 else 0]
theorem m8 (K:Nat)(f g:af)(I:1048577<K):Q36.f K (f,g,())=some ((cmpF f g,()),()):=by
 obtain⟨a,b,c,d⟩:=f;obtain⟨r,u,y,H⟩:=g;have h:∀ z:Int,Q35.f K ([fQ a r,fQ b u,fQ c y,z],())=some ((orI [fQ a r,fQ b u,fQ c y,z],()),()):=λz=>Bj K _ (by simp) I
 simp only[Q36.f,cmpF];cases d <;> cases H <;> simp only[B7,CJ,cond_true,cond_false] <;> rw[nZ,B4,nZ,B4,nZ,B4,h] <;> rfl
theorem pd {x:Int}(h:x=0)(xs:List Int):orI (x::xs)=orI xs:=by subst h;rfl
theorem u9 {x:Int}(h:x≠0)(xs:List Int):orI (x::xs)=x:=by simp[orI,h]
theorem jQ {f g:af}(e:f.1=g.1):cmpF f g>0<->bM f g:=by
 unfold cmpF bM;rw[pd ((iE f.1 g.1).2 e)];by_cases r:f.2.1=g.2.1
 ·rw[pd ((iE f.2.1 g.2.1).2 r),if_neg (show ¬ f.2.1≠g.2.1 from λh=>h r)];by_cases u:f.2.2.1=g.2.2.1
  ·rw[pd ((iE f.2.2.1 g.2.2.1).2 u),if_neg (show ¬ f.2.2.1≠g.2.2.1 from λh=>h u)];cases f.2.2.2 <;> cases g.2.2.2 <;> simp[orI]
  ·rw[u9 (λh=>u ((iE f.2.2.1 g.2.2.1).1 h)),if_pos (show f.2.2.1≠g.2.2.1 from u)];exact u7 _ _
 ·rw[u9 (λh=>r ((iE f.2.1 g.2.1).1 h)),if_pos (show f.2.1≠g.2.1 from r)];exact u7 _ _
theorem pR (K:Nat)(f g:af)(r:1048577<K):Ret (Q37.f K (f,g,())) (bu f/\bu g/\f.1=g.1/\bM f g):=by
 refine Ret.and (mo K f) (λ_=>Ret.and (mo K g) (λ_=>?_) rfl) rfl;refine (Ret.cnd (b:=f.1==g.1) (P:=f.1=g.1) (by simp) (λe=>?_)).iff Iff.rfl;show Ret ((Q36.f K (f,g,())).bind _) _;rw[m8 K f g r];refine Ret.of ?_;simp only[gt_iff_lt,decide_eq_true_eq];exact jQ e
theorem bz {n:Nat}{m:Int}(h:(n:Int)<m):decide ((n:Int)<m)=true:=decide_eq_true h
theorem aS (n:Nat):decide ((n:Int)<(n:Int))=false:=decide_eq_false (by omega)
def c5 (l:List aM):Prop:=(∀ x∈l,bu x.1/\InP x.2 1 4)/\Asc (λx:aM=>x.1.1) l
theorem yU (K:Nat)(l:List aM)(y:l.length<=1048576)(z:1048577<K):Ret (Q105.f K (l,())) (c5 l):=by
 refine (gE l (step:=λrec a=>Q105.s0 K (l,()) rec a) (λi r=>bu l[i].1/\InP l[i].2 1 4/\(0<i->¬ (l[i-1]'(by omega)).1.1>=l[i].1.1)/\True) y ?_ ?_ z (λ_=>Ret.yes trivial)).iff (fq.trans ?_)
 ·intro rec i r;simp only[Q105.s0];rw[decide_eq_true (by omega:(i:Int)<(B3 l:Int))];simp only[cond_true];refine Rnd.ix (ag r) (Rnd.nx (pc K _) λ_=>Rnd.ix (ag r) (Rnd.nx (cM K _ 1 4) λ_=>Rnd.two (λu=>?_) Rnd.end_));rw[fe i u (by omega)];exact Rnd.ix (ag (by omega)) (Rnd.ix (ag r) (Rnd.cndN (by simp) λ_=>Rnd.end_))
 ·intro rec;simp only[Q105.s0,aS];rfl
 ·rw[c5,dQ,hI];constructor
  ·intro h;exact⟨λi r=>⟨(h i r).1,(h i r).2.1⟩,λi r u=>by have:=(h i r).2.2.1 u;omega⟩
  ·rintro⟨h1,h2⟩ i r;exact⟨(h1 i r).1,(h1 i r).2,λu=>by have:=h2 i r u;omega,trivial⟩
theorem va (K:Nat)(l:List aM)(M:l.length<=1048576)(O:1048577<K):Q33.f K (l,())=some ((l.map (·.1),()),()):=by
 have u:∀ (d k i:Nat),i+d=l.length->d<k->ae (λrec a=>Q33.s0 K (l,()) rec a) k ((l.take i).map (·.1),(i:Int))=some ((l.map (·.1),()),()):=by
  intro d;induction d with
  |zero =>
   intro k i J H;obtain⟨k,rfl⟩:∃ z,k=z+1:=⟨k-1,by omega⟩;show Q33.s0 K (l,()) _ _=_;simp only[Q33.s0];rw[decide_eq_false (by omega:¬ ((i:Int)<(B3 l:Int))),CH (by omega)];rfl
  |succ d y =>
   intro k i J H;obtain⟨k,rfl⟩:∃ z,k=z+1:=⟨k-1,by omega⟩;have y:=y k (i+1) (by omega) (by omega);show Q33.s0 K (l,()) _ _=_;have r:i<l.length:=by omega
   simp only[Q33.s0];rw[decide_eq_true (by omega:(i:Int)<(B3 l:Int)),ag r,ar i (by omega)];simp only[cond_true,B4];have I:decide ((B3 (List.map (λx:aM=>x.1) (List.take i l))+B3 [l[i].1])*32<=am)=true:=decide_eq_true (by simp only[am,List.length_map,List.length_take,CI];omega);rw[I];have e:(List.take i l).map (λx:aM=>x.1)++[l[i].1]=(l.take (i+1)).map (·.1):=by
    rw[CL,B8 r,List.map_append];rfl
   rw[e];exact y
 have:=u l.length K 0 (by omega) (by omega);exact this
theorem vX {l:List aM}:aw (l.map (·.1))<->(∀ x∈l,bu x.1)/\Asc (λx:aM=>x.1.1) l:=by
 unfold aw Asc;rw[CE];simp
theorem xu (K:Nat)(x:aM):Ret (Q32.f K (x,())) (¬ InP x.2 1 4):=by
 simp only[Q32.f];exact (eP K x.2 1 4).neg
theorem yV (K:Nat)(l:List aM)(r:l.length<=1048576)(z:1048577<K):Ret (Q31.f K (l,(λu=>(Q32.f K (u.1,())).map λy=>y.1.1),())) (∃ x∈l,¬ InP x.2 1 4) :=
 rD K l _ (λx=>¬ InP x.2 1 4) r z (λx _=>Ret.fn (xu K x))
theorem pe (K:Nat)(l:List aM)(u:l.length<=1048576)(y:1048577<K):Ret (Q34.f K (l,())) (c5 l):=by
 simp only[Q34.f];obtain⟨H,I,J⟩:=yV K l u y;obtain⟨z,M,O⟩:=fU K (l.map (·.1)) (by simpa using u) y;rw[va K l u y,B4,M,B4,I,B4];have e:c5 l<->(z=true/\H=false):=by
  rw[O,vX,c5,<- Bool.not_eq_true,J];constructor
  ·rintro⟨h5,h6⟩;exact⟨⟨λx r=>(h5 x r).1,h6⟩,λ⟨x,r,h⟩=>h (h5 x r).2⟩
  ·rintro⟨⟨h5,h6⟩,h7⟩;exact⟨λx r=>⟨h5 x r,B6.1 λh=>h7 ⟨x,r,h⟩⟩,h6⟩
 refine Ret.iff ?_ e.symm;cases z <;> cases H <;> exact⟨_,rfl,by simp⟩
def im (t:List af)(l:List aM):Prop:=∀ x∈l,∃ f∈t,f.1=x.1.1/\¬ bM x.1 f
theorem fD {t:List af}(h:Asc (λf:af=>f.1) t){f g:af}(u:f∈t)(y:g∈t)(e:f.1=g.1):f=g:=by
 obtain⟨i,z,rfl⟩:=B9 u;obtain⟨j,r,rfl⟩:=B9 y;have:=pb h z r e;subst this;rfl
theorem uC (K:Nat)(n:aa)(u:NB n)(M:aw (aa.table n))(z:1048577<K):Ret (Q107.f K (n,())) (c5 (aa.cast n)/\im (aa.table n) (aa.cast n)):=by
 refine Ret.nx (yU K _ u.cast z) λ_=>?_
 refine (gE (aa.cast n) (step:=λrec a=>Q107.s0 K (n,()) rec a) (λi H=>∃ f∈aa.table n,f.1=(aa.cast n)[i].1.1/\¬ bM (aa.cast n)[i].1 f) u.cast ?_ ?_ z (λ_=>Ret.yes trivial)).iff (fq.trans ?_)
 ·intro rec i H;simp only[Q107.s0];rw[decide_eq_true (by omega:(i:Int)<(B3 (aa.cast n):Int))];simp only[cond_true];refine Rnd.ix (ag H) ?_;obtain⟨o,J,I⟩:=fP K (aa.table n) (aa.cast n)[i].1.1 u.table z;refine Rnd.vl I ?_;cases J with
  |no h =>
   rw[show decide ((-1:Int)<0)=true from rfl];exact .inr ⟨λ⟨f,r,e,_⟩=>h f r e,rfl⟩
  |at_ j y e =>
   simp only;rw[decide_eq_false (by omega:¬ ((j:Int)<0))];refine (Rnd.ix (ag H) (Rnd.ix (ag y) (Rnd.fx (tk K _ _) λ_=>Rnd.end_))).iff ⟨λh=>⟨_,B5 y,e,h.1⟩,λ⟨f,r,O,h⟩=>⟨?_,trivial⟩⟩;have:=fD M.2 r (B5 y) (O.trans e.symm)
   rwa [<- this]
 ·intro rec;simp only[Q107.s0,aS];rfl
 ·rw[im,dQ]
theorem yW (K:Nat)(n:aa)(O:NB n)(J:aw (aa.table n))(X:c5 (aa.cast n))(M:1048577<K) :
  Ret ((Q31.f K (aa.cast n,(λR=>(Q38.f K (R.1,n,())).map λy=>y.1.1),())).bind λY=>some ((!Y.1.1,()),())) (im (aa.table n) (aa.cast n)):=by
 refine (Ret.neg (rD K _ _ (λx=>¬ ∃ f∈aa.table n,f.1=x.1.1/\¬ bM x.1 f) O.cast M (λx H=>Ret.fn ?_))).iff ?_
 ·simp only[Q38.f];rcases gH K (aa.table n) x.1.1 O.table M with ⟨u,_⟩|⟨_,⟨f,z,e,u⟩|⟨r,u⟩⟩
  ·exact absurd J u
  ·refine Ret.vl u ?_;refine (pR K x.1 f M).id.iff ⟨λh ⟨g,Z,e2,I⟩=>?_,λh=>?_⟩
   ·have:=fD J.2 Z z (e2.trans e.symm);exact I (this ▸ h.2.2.2)
   ·refine⟨(X.1 x H).1,J.1 f z,e.symm,B6.1 λI=>h ⟨f,z,e,I⟩⟩
  ·refine Ret.vl u ?_;exact Ret.yes (λ⟨f,z,e,_⟩=>r f z e)
 ·exact⟨λh x H=>B6.1 λr=>h ⟨x,H,r⟩,λh ⟨x,H,r⟩=>r (h x H)⟩
def cV (n:aa):Prop:=((n.1,n.2.2.2.2.1,(if n.2.2.1=true then 4 else 1),n.2.2.2.1):af)∈aa.table n
theorem Bk (K:Nat)(n:aa)(I:NB n)(M:aw (aa.table n))(O:1048577<K):Ret (Q104.f K (n,())) (cV n):=by
 simp only[Q104.f];obtain⟨o,H,z⟩:=fP K (aa.table n) n.1 I.table O;refine Ret.vl z ?_;cases H with
 |no h =>
  rw[show decide ((-1:Int)<0)=true from rfl];exact Ret.no (λy=>h _ y rfl)
 |at_ j u e =>
  simp only;rw[decide_eq_false (by omega:¬ ((j:Int)<0))];refine Ret.vl (ag u) ?_;have r:cV n<->(aa.table n)[j]=((n.1,n.2.2.2.2.1,(if n.2.2.1=true then 4 else 1),n.2.2.2.1):af):=by
   constructor
   ·intro h;exact fD M.2 (B5 u) h e
   ·intro h;show _∈_;rw[<- h];exact B5 u
  have J:(aa.table n)[j]=((n.1,n.2.2.2.2.1,(if n.2.2.1=true then 4 else 1),n.2.2.2.1):af)<->((aa.table n)[j].2.1=n.2.2.2.2.1/\(aa.table n)[j].2.2.1=(if n.2.2.1=true then 4 else 1)/\(aa.table n)[j].2.2.2=n.2.2.2.1):=by
   generalize (aa.table n)[j]=f at e ⊢;obtain⟨a,b,c,d⟩:=f;simp at e ⊢;intro _ _ _;exact e
  refine Ret.iff ?_ (r.trans J).symm;cases R:n.2.2.1 with
  |true=>exact Ret.cnd (by simp) λ_=>Ret.cnd (by simp) λ_=>Ret.of (by simp)
  |false=>exact Ret.cnd (by simp) λ_=>Ret.cnd (by simp) λ_=>Ret.of (by simp)
theorem jR (f g:af):Ty.eqv ty_impl_Fact_D f g=decide (f=g):=by
 obtain⟨a,b,c,d⟩:=f;obtain⟨u,y,z,r⟩:=g;show (decide (a=u)&&(decide (b=y)&&(decide (c=z)&&(d==r))))=_;cases d <;> cases r <;> simp[CK]
theorem Bl (f g:dJ):Ty.eqv ty_impl_Coord_D f g=decide (f=g):=by
 obtain⟨a,b,c,d⟩:=f;obtain⟨r,u,z,y⟩:=g;show (decide (a=r)&&(decide (b=u)&&(decide (c=z)&&decide (d=y))))=_;simp[CK]
theorem qK (K:Nat)(n:aa)(I:NB n)(M:1048577<K):Ret (Q39.f K (n,()))
  (aw (aa.table n)/\bV (aa.table n) (aj n.1)/\cV n/\c5 (aa.cast n)/\im (aa.table n) (aa.cast n)):=by
 have z:∀ (w:Int),aw (aa.table n)->Ret ((Q29.f K (n,())).bind λZ=>(Q28.f K (aa.table n,Z.1.1,())).bind λR=>bif !R.1.1 then rb false else
   ((Q34.f K (aa.cast n,())).bind λy4=>bif !y4.1.1 then rb false else
    ((Q31.f K (aa.cast n,(λX=>(Q38.f K (X.1,n,())).map λy=>y.1.1),())).bind λY=>some ((!Y.1.1,()),()))))
   (bV (aa.table n) (aj n.1)/\c5 (aa.cast n)/\im (aa.table n) (aa.cast n)):=by
  intro _ H;exact Ret.vl (n9 K n) (Ret.nx (kJ K _ _ I.table M) λ_=>Ret.nx (pe K _ I.cast M) λhC=>yW K n I H hC M)
 have r:∀ (w:Int),w=(if n.2.2.1=true then 4 else 1)->Ret ((Q23.f K (aa.table n,n.1,())).bind λy1=>bif !y1.1.2.1 then rb false else bif !Ty.eqv ty_impl_Fact_D y1.1.1 (n.1,(n.2.2.2.2.1,(w,n.2.2.2.1))) then rb false else
   ((Q29.f K (n,())).bind λZ=>(Q28.f K (aa.table n,Z.1.1,())).bind λR=>bif !R.1.1 then rb false else
   ((Q34.f K (aa.cast n,())).bind λy4=>bif !y4.1.1 then rb false else
    ((Q31.f K (aa.cast n,(λX=>(Q38.f K (X.1,n,())).map λy=>y.1.1),())).bind λY=>some ((!Y.1.1,()),())))))
   (aw (aa.table n)/\bV (aa.table n) (aj n.1)/\cV n/\c5 (aa.cast n)/\im (aa.table n) (aa.cast n)):=by
  intro w hw;rcases gH K (aa.table n) n.1 I.table M with ⟨u,O⟩|⟨H,⟨f,hf,e,u⟩|⟨O,u⟩⟩
  ·exact Ret.vl O (Ret.no (λh=>u h.1))
  ·refine Ret.vl u ?_;simp only[B7,cond_false];rw[jR];by_cases J:f=(n.1,(n.2.2.2.2.1,(w,n.2.2.2.1)))
   ·rw[decide_eq_true J];have hS:cV n:=by
     show _∈_;rw[<- hw,<- J];exact hf
    exact (z w H).iff ⟨λh=>⟨H,h.1,hS,h.2.1,h.2.2⟩,λh=>⟨h.2.1,h.2.2.2⟩⟩
   ·rw[decide_eq_false J];refine Ret.no (λh=>J ?_);have:=fD H.2 hf h.2.2.1 e;rw[this,hw]
  ·refine Ret.vl u (Ret.no (λh=>O _ h.2.2.1 rfl))
 simp only[Q39.f];cases hg:n.2.2.1 with
 |true=>exact r 4 (by rw[hg];rfl)
 |false=>exact r 1 (by rw[hg];rfl)
def da (n:aa):Prop:=if (aa.probe n).1=-1 then aa.probe n=(-1,0,0,false) else
 (aa.probe n).1≠n.1/\(∃ f∈aa.table n,f.1=(aa.probe n).1)/\InP (aa.probe n).2.1 0 n.2.2.2.2.2.1/\InP (aa.probe n).2.2.1 1 n.2.2.2.2.2.2.1
theorem Al (K:Nat)(n:aa)(I:NB n)(M:1048577<K):Ret (Q108.f K (n,())) (da n):=by
 simp only[Q108.f,da];by_cases h:(aa.probe n).1=-1
 ·rw[if_pos h,show ((aa.probe n).1==-1)=true by simpa using h];refine (Ret.cnd (P:=(aa.probe n).2.1=0) (by simp) λ_=>Ret.cnd (P:=(aa.probe n).2.2.1=0) (by simp) λ_=>Ret.of (P:=(aa.probe n).2.2.2=false) (by simp)).iff ?_;generalize aa.probe n=p at h ⊢;obtain⟨a,b,c,d⟩:=p;simp at h ⊢;intro _ _ _;exact h
 ·rw[if_neg h,show ((aa.probe n).1==-1)=false by simpa using h];refine Ret.cnd (by simp) λ_=>?_
  obtain⟨o,z,u⟩:=fP K (aa.table n) (aa.probe n).1 I.table M;refine Ret.vl u ?_;cases z with
  |no y=>exact Ret.no (λ⟨⟨f,H,e⟩,_⟩=>y f H e)
  |at_ j J e =>
   simp only;rw[show decide ((j:Int)>=0)=true from decide_eq_true (by omega)];exact (Ret.px (cM K _ _ _) λ_=>(cM K _ _ _).id).iff ⟨λr=>⟨⟨_,B5 J,e⟩,r⟩,λr=>r.2⟩
theorem Am (K:Nat)(n:aa)(I:NB n)(z:aw (aa.table n))(J:1048577<K):Ret (Q40.f K (n,())) (da n):=by
 simp only[Q40.f,da];by_cases h:(aa.probe n).1=-1
 ·rw[if_pos h,show ((aa.probe n).1==-1)=true by simpa using h,jR];exact Ret.dec
 ·rw[if_neg h,show ((aa.probe n).1==-1)=false by simpa using h];rcases gH K (aa.table n) (aa.probe n).1 I.table J with ⟨r,_⟩|⟨_,⟨f,y,e,r⟩|⟨H,r⟩⟩
  ·exact absurd z r
  ·refine Ret.vl r ?_;exact (Ret.cnd (P:=(aa.probe n).1≠n.1) (by simp) λ_=>Ret.px (eP K _ _ _) λ_=>(eP K _ _ _).id).iff ⟨λu=>⟨u.1,⟨f,y,e⟩,u.2⟩,λu=>⟨u.1,u.2.2⟩⟩
  ·exact Ret.vl r (Ret.no (λ⟨_,⟨f,y,e⟩,_⟩=>H f y e))
def cN (c:dJ):Prop:=InP c.1 (-100000) 100000/\InP c.2.1 (-100000) 100000/\InP c.2.2.1 0 100000/\InP c.2.2.2 1 1500
theorem iT (K:Nat)(c:dJ):Ret (Q110.f K (c,())) (cN c) :=
 Ret.px (cM K _ _ _) λ_=>Ret.px (cM K _ _ _) λ_=>Ret.px (cM K _ _ _) λ_=>(cM K _ _ _).id
theorem oa (K:Nat)(c:dJ):Ret (Q43.f K (c,())) (cN c) :=
 Ret.px (eP K _ _ _) λ_=>Ret.px (eP K _ _ _) λ_=>Ret.px (eP K _ _ _) λ_=>(eP K _ _ _).id
def Bm (r:Int)(p:dV):Prop:=InP p.1 0 7/\aj p.1=aj r/\p.1≠r/\cN p.2.1/\InP (p.2.2.length:Int) 1 3/\∀ t∈p.2.2,InP t 1 60000
def eK (r:Int)(l:List dV):Prop:=(∀ p∈l,Bm r p)/\Asc (λp:dV=>p.1) l
theorem pS (K:Nat)(n:aa)(x:Int):Ret (Q41.f K (n,x,())) (InP x 0 7/\aj x=aj n.1):=by
 refine Ret.px (jt K x) λ_=>?_
 exact Ret.of (b:=aj x==aj n.1) (by simp)
theorem An (K:Nat)(n:aa)(x:Int):Ret (Q44.f K (n,x,())) ((InP x 0 7/\aj x=aj n.1)/\x≠n.1):=by
 refine Ret.px (pS K n x) λ_=>?_
 exact Ret.of (b:=x != n.1) (by simp)
theorem yX (K:Nat)(n:aa)(M:NB n)(hK:1048577<K):Ret (Q111.f K (n,())) (eK n.1 (aa.places n)):=by
 refine (gE (aa.places n) (step:=λrec a=>Q111.s0 K (n,()) (Q111.l1 K (n,()) rec) rec a)
  (λi y=>InP (aa.places n)[i].1 0 7/\¬ aj (aa.places n)[i].1≠aj n.1/\¬ (aa.places n)[i].1=n.1/\(0<i->¬ ((aa.places n)[i-1]'(by omega)).1>=(aa.places n)[i].1) /\
   cN (aa.places n)[i].2.1/\InP ((aa.places n)[i].2.2.length:Int) 1 3/\∀ k (z:k<(aa.places n)[i].2.2.length),InP (aa.places n)[i].2.2[k] 1 60000/\True) M.places ?_ ?_ hK (λ_=>Ret.yes trivial)).iff (fq.trans ?_)
 ·intro rec i y;have Z:=M.trips _ (B5 y);have hl:=M.places;have u:Rnd (Q111.l1 K (n,()) rec ((i:Int),0,(aa.places n)[i].1,(aa.places n)[i].2.1.1,(aa.places n)[i].2.1.2.1,(aa.places n)[i].2.1.2.2.1,(aa.places n)[i].2.1.2.2.2,(aa.places n)[i].2.2))
    (∀ k (z:k<(aa.places n)[i].2.2.length),InP (aa.places n)[i].2.2[k] 1 60000/\True) (rec (wr .i64 ((i:Int)+1))):=by
   generalize (aa.places n)[i]=p at Z;refine pa p.2.2 (step:=λr a=>Q111.s1 K (n,()) rec r a) (λk=>((i:Int),(k:Int),p.1,p.2.1.1,p.2.1.2.1,p.2.1.2.2.1,p.2.1.2.2.2,p.2.2)) (λk z=>InP p.2.2[k] 1 60000/\True) Z ?_ ?_ hK
   ·intro r k z;simp only[Q111.s1];rw[decide_eq_true (by omega:(k:Int)<(B3 p.2.2:Int)),ar k (by omega)];simp only[cond_true];exact Rnd.ix (ag z) (Rnd.nx (cM K _ _ _) λ_=>Rnd.end_)
   ·intro r;simp only[Q111.s1,aS];rfl
  simp only[Q111.s0];rw[decide_eq_true (by omega:(i:Int)<(B3 (aa.places n):Int))];simp only[cond_true];refine Rnd.ix (ag y) (Rnd.nx (cM K _ _ _) λ_=>Rnd.vl (eQ K _) (Rnd.vl (eQ K _) (Rnd.cndN (by simp) λ_=>Rnd.cndN (by simp) λ_=>Rnd.two (λH=>?_) ?_)))
  ·rw[fe i H (by omega)];exact Rnd.ix (ag (show i-1<(aa.places n).length by omega)) (Rnd.cndN (by simp) λ_=>Rnd.nx (iT K _) λ_=>Rnd.nx (cM K _ _ _) λ_=>u)
  ·exact Rnd.nx (iT K _) λ_=>Rnd.nx (cM K _ _ _) λ_=>u
 ·intro rec;simp only[Q111.s0,aS];rfl
 ·rw[eK,dQ,hI];constructor
  ·intro h;refine⟨λi y=>?_,λi y H=>?_⟩
   ·obtain⟨I,J,R,h4,X,Y,O⟩:=h i y;exact⟨I,B6.1 J,R,X,Y,dQ.2 λk z=>(O k z).1⟩
   ·have:=(h i y).2.2.2.1 H;omega
  ·rintro⟨I,J⟩ i y;obtain⟨R,h4,X,Y,O,h8⟩:=I i y;exact⟨R,B6.2 h4,X,λH=>by have:=J i y H;omega,Y,O,λk z=>⟨dQ.1 h8 k z,trivial⟩⟩
theorem yY (K:Nat)(n:aa)(M:NB n)(hK:1048577<K):Ret (Q48.f K (n,())) (eK n.1 (aa.places n)):=by
 refine (gE (aa.places n) (step:=λrec a=>Q48.s0 K (n,()) rec a)
  (λi u=>((InP (aa.places n)[i].1 0 7/\aj (aa.places n)[i].1=aj n.1)/\(aa.places n)[i].1≠n.1)/\(0<i->¬ (aa.places n)[i].1<=((aa.places n)[i-1]'(by omega)).1) /\
   cN (aa.places n)[i].2.1/\InP ((aa.places n)[i].2.2.length:Int) 1 3/\(¬ ∃ t∈(aa.places n)[i].2.2,¬ InP t 1 60000)/\True) M.places ?_ ?_ hK (λ_=>Ret.yes trivial)).iff (fq.trans ?_)
 ·intro rec i u;have hb:=M.trips _ (B5 u);have hl:=M.places;have r:Ret (Q47.f K ((aa.places n)[i].2.2,(λy6=>(Q45.f K (y6.1,())).map λy=>y.1.1),())) (∃ t∈(aa.places n)[i].2.2,¬ InP t 1 60000) :=
   yT K _ _ _ hb hK (λt _=>Ret.fn (eP K t _ _).neg)
  simp only[Q48.s0];rw[decide_eq_true (by omega:(i:Int)<(B3 (aa.places n):Int))];simp only[cond_true];refine Rnd.ix (ag u) (Rnd.nx (An K n _) λ_=>Rnd.two (λz=>?_) ?_)
  ·rw[fe i z (by omega)];exact Rnd.ix (ag (show i-1<(aa.places n).length by omega)) (Rnd.cndN (by simp) λ_=>Rnd.nx (oa K _) λ_=>Rnd.nx (eP K _ _ _) λ_=>Rnd.fx r λ_=>Rnd.end_)
  ·exact Rnd.nx (oa K _) λ_=>Rnd.nx (eP K _ _ _) λ_=>Rnd.fx r λ_=>Rnd.end_
 ·intro rec;simp only[Q48.s0,aS];rfl
 ·rw[eK,dQ,hI];constructor
  ·intro h;refine⟨λi u=>?_,λi u z=>?_⟩
   ·obtain⟨⟨⟨I,J⟩,R⟩,h4,X,Z,O,_⟩:=h i u;exact⟨I,J,R,X,Z,λt Y=>B6.1 λH=>O ⟨t,Y,H⟩⟩
   ·have:=(h i u).2.1 z;omega
  ·rintro⟨I,J⟩ i u;obtain⟨R,h4,X,Z,O,H⟩:=I i u;exact⟨⟨⟨R,h4⟩,X⟩,λz=>by have:=J i u z;omega,Z,O,λ⟨t,Y,h9⟩=>h9 (H t Y),trivial⟩
def Bn (r:Int)(x:ce):Prop:=InP x.1 0 1/\x.1≠aj r/\x.2≠[]/\aw x.2/\bV x.2 x.1
def dk (r:Int)(l:List ce):Prop:=(∀ x∈l,Bn r x)/\Asc (λx:ce=>x.1) l
theorem pf {α:Type}(l:List α):((B3 l:Int)==0)=true<->l=[]:=by
 cases l <;> simp;omega
theorem yZ (K:Nat)(n:aa)(H:NB n)(y:1048577<K):Ret (Q112.f K (n,())) (dk n.1 (aa.others n)):=by
 refine (gE (aa.others n) (step:=λrec a=>Q112.s0 K (n,()) rec a)
  (λi r=>InP (aa.others n)[i].1 0 1/\¬ (aa.others n)[i].1=aj n.1/\(0<i->¬ ((aa.others n)[i-1]'(by omega)).1>=(aa.others n)[i].1) /\
   ¬ (aa.others n)[i].2=[]/\aw (aa.others n)[i].2/\bV (aa.others n)[i].2 (aa.others n)[i].1/\True) H.others ?_ ?_ y (λ_=>Ret.yes trivial)).iff (fq.trans ?_)
 ·intro rec i r;have z:=H.facts _ (B5 r);have X:=H.others;simp only[Q112.s0];rw[decide_eq_true (by omega:(i:Int)<(B3 (aa.others n):Int))];simp only[cond_true];refine Rnd.ix (ag r) (Rnd.nx (cM K _ _ _) λ_=>Rnd.vl (eQ K _) (Rnd.cndN (by simp) λ_=>Rnd.two (λu=>?_) ?_))
  ·rw[fe i u (by omega)];exact Rnd.ix (ag (show i-1<(aa.others n).length by omega)) (Rnd.cndN (by simp) λ_=>Rnd.cndN (pf _) λ_=>Rnd.nx (gF K _ z y) λ_=>Rnd.nx (gG K _ _ z y) λ_=>Rnd.end_)
  ·exact Rnd.cndN (pf _) λ_=>Rnd.nx (gF K _ z y) λ_=>Rnd.nx (gG K _ _ z y) λ_=>Rnd.end_
 ·intro rec;simp only[Q112.s0,aS];rfl
 ·rw[dk,dQ,hI];constructor
  ·intro h;exact⟨λi r=>⟨(h i r).1,(h i r).2.1,(h i r).2.2.2.1,(h i r).2.2.2.2.1,(h i r).2.2.2.2.2.1⟩,λi r u=>by have:=(h i r).2.2.1 u;omega⟩
  ·rintro⟨h1,h2⟩ i r;obtain⟨J,O,M,R,I⟩:=h1 i r;exact⟨J,O,λu=>by have:=h2 i r u;omega,M,R,I,trivial⟩
theorem za (K:Nat)(n:aa)(J:NB n)(z:1048577<K):Ret (Q49.f K (n,())) (dk n.1 (aa.others n)):=by
 refine (gE (aa.others n) (step:=λrec a=>Q49.s0 K (n,()) rec a)
  (λi r=>InP (aa.others n)[i].1 0 1/\¬ (aa.others n)[i].1=aj n.1/\(0<i->¬ (aa.others n)[i].1<=((aa.others n)[i-1]'(by omega)).1) /\
   ¬ (aa.others n)[i].2=[]/\aw (aa.others n)[i].2/\bV (aa.others n)[i].2 (aa.others n)[i].1/\True) J.others ?_ ?_ z (λ_=>Ret.yes trivial)).iff (fq.trans ?_)
 ·intro rec i r;have H:=J.facts _ (B5 r);have Y:=J.others;have I:aj 7=1:=by unfold aj;rw[aA (by decide) (by decide)];decide
  have u:=eP K (aa.others n)[i].1 0 (aj 7);rw[I]at u;simp only[Q49.s0];rw[decide_eq_true (by omega:(i:Int)<(B3 (aa.others n):Int))];simp only[cond_true];refine Rnd.ix (ag r) (Rnd.vl (m7 K 7) ?_);dsimp only;rw[I];refine Rnd.nx u λ_=>Rnd.vl (n9 K n) (Rnd.cndN (by simp) λ_=>Rnd.two (λy=>?_) ?_)
  ·rw[fe i y (by omega)];exact Rnd.ix (ag (show i-1<(aa.others n).length by omega)) (Rnd.cndN (by simp) λ_=>Rnd.cndN (pf _) λ_=>Rnd.nx (fU K _ H z) λ_=>Rnd.nx (kJ K _ _ H z) λ_=>Rnd.end_)
  ·exact Rnd.cndN (pf _) λ_=>Rnd.nx (fU K _ H z) λ_=>Rnd.nx (kJ K _ _ H z) λ_=>Rnd.end_
 ·intro rec;simp only[Q49.s0,aS];rfl
 ·rw[dk,dQ,hI];constructor
  ·intro h;exact⟨λi r=>⟨(h i r).1,(h i r).2.1,(h i r).2.2.2.1,(h i r).2.2.2.2.1,(h i r).2.2.2.2.2.1⟩,λi r y=>by have:=(h i r).2.2.1 y;omega⟩
  ·rintro⟨h1,h2⟩ i r;obtain⟨M,R,O,X,I⟩:=h1 i r;exact⟨M,R,λy=>by have:=h2 i r y;omega,O,X,I,trivial⟩
def ByP (r:Int)(l:List Int):Prop:=(∀ b∈l,InP b 0 7/\aj b=aj r)/\Asc (λb:Int=>b) l
def lS (n:aa)(d:bt):Prop:=(∃ f∈aa.table n,f.1=d.1/\f.2.2.1=2/\f.2.1=d.2.1)/\InP d.2.2.1 0 n.2.2.2.2.2.1/\d.2.2.2≠[]/\ByP n.1 d.2.2.2
def aU (t:List af):List af:=t.filter λf=>f.2.2.1==2
def iU (n:aa):Prop:=(∀ d∈aa.doubts n,lS n d)/\Asc (λd:bt=>d.1) (aa.doubts n)/\(aU (aa.table n)).length=(aa.doubts n).length
theorem xv {y:Int}{l:List Int}:ByP y l<->∀ k (r:k<l.length),(InP l[k] 0 7/\aj l[k]=aj y)/\(0<k->¬ l[k-1]'(by omega)>=l[k]):=by
 rw[ByP,dQ,hI];constructor
 ·rintro⟨h1,h2⟩ k r;exact⟨h1 k r,λu=>by have:=h2 k r u;omega⟩
 ·intro h;exact⟨λk r=>(h k r).1,λk r u=>by have:=(h k r).2 u;omega⟩
theorem Ao (K:Nat)(n:aa)(I:NB n)(X:1048577<K):Q109.l2 K (n,()) (0,0)=rb (decide ((aU (aa.table n)).length=(aa.doubts n).length)):=by
 have R:=I.table;have u:∀ (d k i c:Nat),i+d=(aa.table n).length->d<k->c<=i ->
   ae (λrec a=>Q109.s2 K (n,()) rec a) k ((c:Int),(i:Int))=rb (decide (c+(aU ((aa.table n).drop i)).length=(aa.doubts n).length)):=by
  intro d;induction d with
  |zero =>
   intro k i c O J M;obtain⟨k,rfl⟩:∃ y,k=y+1:=⟨k-1,by omega⟩;show Q109.s2 K (n,()) _ _=_;simp only[Q109.s2];rw[decide_eq_false (show ¬ ((i:Int)<(B3 (aa.table n):Int)) by omega),CG (by omega)];simp only[cond_false,aU,List.filter_nil,List.length_nil,Nat.add_zero];have e:((c:Int)==(B3 (aa.doubts n):Int))=decide (c=(aa.doubts n).length):=by
    by_cases h:c=(aa.doubts n).length
    ·rw[decide_eq_true h,h];simp
    ·rw[decide_eq_false h,beq_eq_false_iff_ne];omega
   exact congrArg rb e
  |succ d H =>
   intro k i c O J M;obtain⟨k,rfl⟩:∃ y,k=y+1:=⟨k-1,by omega⟩;have r:i<(aa.table n).length:=by omega
   show Q109.s2 K (n,()) _ _=_;simp only[Q109.s2];rw[decide_eq_true (show ((i:Int)<(B3 (aa.table n):Int)) by omega),ag r,ar i (by omega),ar c (by omega),CD r];simp only[cond_true,B4];cases z:((aa.table n)[i].2.2.1==2) with
   |true =>
    have:=H k (i+1) (c+1) (by omega) (by omega) (by omega);simp only[cond_true];have e:c+1+(aU ((aa.table n).drop (i+1))).length=c+(aU ((aa.table n)[i]::(aa.table n).drop (i+1))).length:=by
     simp only[aU,CF,z,if_true,List.length_cons];omega
    rw[<- e];exact this
   |false =>
    have:=H k (i+1) c (by omega) (by omega) (by omega);simp only[cond_false];have e:aU ((aa.table n)[i]::(aa.table n).drop (i+1))=aU ((aa.table n).drop (i+1)):=by
     simp only[aU,CF,z,CA,if_false]
    rw[e];exact this
 have:=u (aa.table n).length K 0 0 (by omega) (by omega) (CN _);rw[CP,Nat.zero_add]at this;exact this
theorem zb (K:Nat)(n:aa)(R:NB n)(hT:aw (aa.table n))(Y:1048577<K):Ret (Q109.f K (n,())) (iU n):=by
 refine (gE (aa.doubts n) (step:=λrec a=>Q109.s0 K (n,()) (Q109.l1 K (n,()) rec) (Q109.l2 K (n,())) rec a)
  (λi z=>(0<i->¬ ((aa.doubts n)[i-1]'(by omega)).1>=(aa.doubts n)[i].1)/\lS n (aa.doubts n)[i]) (Q:=(aU (aa.table n)).length=(aa.doubts n).length) (rt:=Q109.l2 K (n,()) (0,0)) R.doubts ?_ ?_ Y (λ_=>by rw[Ao K n R Y];exact Ret.dec)).iff ?_
 ·intro rec i z;have Z:=R.by_ _ (B5 z);have hl:=R.doubts;have y:Rnd (Q109.l1 K (n,()) rec ((i:Int),0,(aa.doubts n)[i].1,(aa.doubts n)[i].2.1,(aa.doubts n)[i].2.2.1,(aa.doubts n)[i].2.2.2)) (ByP n.1 (aa.doubts n)[i].2.2.2) (rec (wr .i64 ((i:Int)+1))):=by
   generalize (aa.doubts n)[i]=d at Z;refine (pa d.2.2.2 (step:=λu a=>Q109.s1 K (n,()) rec u a) (λk=>((i:Int),(k:Int),d.1,d.2.1,d.2.2.1,d.2.2.2))
    (λk r=>InP d.2.2.2[k] 0 7/\¬ aj d.2.2.2[k]≠aj n.1/\(0<k->¬ d.2.2.2[k-1]'(by omega)>=d.2.2.2[k])/\True) Z ?_ ?_ Y).iff ?_
   ·intro u k r;simp only[Q109.s1];rw[decide_eq_true (by omega:(k:Int)<(B3 d.2.2.2:Int)),ar k (by omega)];simp only[cond_true];refine Rnd.ix (ag r) (Rnd.nx (cM K _ _ _) λ_=>Rnd.ix (ag r) (Rnd.vl (eQ K _) (Rnd.vl (eQ K _) (Rnd.cndN (by simp) λ_=>Rnd.two (λH=>?_) Rnd.end_))));rw[fe k H (by omega)];exact Rnd.ix (ag (show k-1<d.2.2.2.length by omega)) (Rnd.ix (ag r) (Rnd.cndN (by simp) λ_=>Rnd.end_))
   ·intro u;simp only[Q109.s1,aS];rfl
   ·rw[xv];constructor
    ·intro h k r;exact⟨⟨(h k r).1,B6.1 (h k r).2.1⟩,(h k r).2.2.1⟩
    ·intro h k r;exact⟨(h k r).1.1,B6.2 (h k r).1.2,(h k r).2,trivial⟩
  obtain⟨o,ho,O⟩:=fP K (aa.table n) (aa.doubts n)[i].1 R.table Y;simp only[Q109.s0];rw[decide_eq_true (show ((i:Int)<(B3 (aa.doubts n):Int)) by omega)];simp only[cond_true];refine Rnd.ix (ag z) (Rnd.vl O ?_);cases ho with
  |no h =>
   have X:¬ lS n (aa.doubts n)[i]:=λ⟨⟨f,O,e,_⟩,_⟩=>h f O e
   refine Rnd.two (λH=>?_) ?_
   ·rw[fe i H (by omega)];refine Rnd.ix (ag (show i-1<(aa.doubts n).length by omega)) (Rnd.cndN (by simp) λ_=>?_);exact .inr ⟨X,rfl⟩
   ·exact .inr ⟨X,rfl⟩
  |at_ j M e =>
   have I:decide ((j:Int)<0)=false:=decide_eq_false (by omega);have J:lS n (aa.doubts n)[i]<->(¬ (aa.table n)[j].2.2.1≠2/\¬ (aa.table n)[j].2.1≠(aa.doubts n)[i].2.1/\InP (aa.doubts n)[i].2.2.1 0 n.2.2.2.2.2.1/\¬ (aa.doubts n)[i].2.2.2=[]/\ByP n.1 (aa.doubts n)[i].2.2.2):=by
    constructor
    ·rintro⟨⟨f,O,e1,e2,e3⟩,h2,h3,h4⟩;have:=fD hT.2 O (B5 M) (e1.trans e.symm);subst this;exact⟨B6.2 e2,B6.2 e3,h2,h3,h4⟩
    ·rintro⟨e2,e3,h2,h3,h4⟩;exact⟨⟨_,B5 M,e,B6.1 e2,B6.1 e3⟩,h2,h3,h4⟩
   refine Rnd.two (λH=>?_) ?_
   ·rw[fe i H (by omega)];refine Rnd.ix (ag (show i-1<(aa.doubts n).length by omega)) (Rnd.cndN (by simp) λ_=>?_);simp only[I,cond_false];refine Rnd.iff ?_ J.symm;exact Rnd.ix (ag M) (Rnd.cndN (by simp) λ_=>Rnd.ix (ag M) (Rnd.cndN (by simp) λ_=>Rnd.nx (cM K _ _ _) λ_=>Rnd.cndN (pf _) λ_=>y))
   ·simp only[I,cond_false];refine Rnd.iff ?_ J.symm;exact Rnd.ix (ag M) (Rnd.cndN (by simp) λ_=>Rnd.ix (ag M) (Rnd.cndN (by simp) λ_=>Rnd.nx (cM K _ _ _) λ_=>Rnd.cndN (pf _) λ_=>y))
 ·intro rec;simp only[Q109.s0,aS];rfl
 ·rw[iU,dQ,hI];constructor
  ·rintro⟨h1,h2⟩;exact⟨λi z=>(h1 i z).2,λi z H=>by have:=(h1 i z).1 H;omega,h2⟩
  ·rintro⟨h1,h2,h3⟩;exact⟨λi z=>⟨λH=>by have:=h2 i z H;omega,h1 i z⟩,h3⟩
theorem Ap (K:Nat)(n:aa)(Z:NB n)(S:List af)(hS:S.length=(aa.doubts n).length)(hK:1048577<K):Ret (Q42.l1 K (n,()) (S,0))
  (∀ i (u:i<(aa.doubts n).length),(aa.doubts n)[i].1=(S[i]'(by omega)).1/\(aa.doubts n)[i].2.1=(S[i]'(by omega)).2.1/\InP (aa.doubts n)[i].2.2.1 0 n.2.2.2.2.2.1/\(aa.doubts n)[i].2.2.2≠[]/\ByP n.1 (aa.doubts n)[i].2.2.2):=by
 have hl:=Z.doubts;have J:=mn (step:=λrec a=>Q42.s1 K (n,()) (Q42.l2 K (n,()) rec) rec a) (aa.doubts n).length (λi=>(S,(i:Int)))
  (λi=>∀ u:i<(aa.doubts n).length,¬ (aa.doubts n)[i].1≠(S[i]'(by omega)).1/\¬ (aa.doubts n)[i].2.1≠(S[i]'(by omega)).2.1/\InP (aa.doubts n)[i].2.2.1 0 n.2.2.2.2.2.1/\¬ (aa.doubts n)[i].2.2.2=[]/\ByP n.1 (aa.doubts n)[i].2.2.2)
  (rb true) (rb false) ?_ ?_ (aa.doubts n).length K 0 (by omega) (by omega)
 ·rcases J with ⟨M,I⟩|⟨M,I⟩
  ·refine⟨true,I,iff_of_true rfl λi u=>?_⟩;obtain⟨O,X,R⟩:=M i (CB _) u u;exact⟨B6.1 O,B6.1 X,R⟩
  ·refine⟨false,I,iff_of_false (by simp) λh=>M λi _ u _=>?_⟩;obtain⟨O,X,R⟩:=h i u;exact⟨B6.2 O,B6.2 X,R⟩
 ·intro rec i u;have Y:=Z.by_ _ (B5 u);have H:Rnd (Q42.l2 K (n,()) rec (S,(i:Int),(aa.doubts n)[i].2.2.2,(B3 (aa.doubts n)[i].2.2.2:Int),0,(aa.doubts n)[i].1,(aa.doubts n)[i].2.1,(aa.doubts n)[i].2.2.1,(aa.doubts n)[i].2.2.2)) (ByP n.1 (aa.doubts n)[i].2.2.2) (rec (S,wr .i64 ((i:Int)+1))):=by
   generalize (aa.doubts n)[i]=d at Y;refine (pa d.2.2.2 (step:=λr a=>Q42.s2 K (n,()) rec r a) (λk=>(S,(i:Int),d.2.2.2,(B3 d.2.2.2:Int),(k:Int),d.1,d.2.1,d.2.2.1,d.2.2.2))
    (λk z=>(InP d.2.2.2[k] 0 7/\aj d.2.2.2[k]=aj n.1)/\(0<k->¬ d.2.2.2[k]<=d.2.2.2[k-1]'(by omega))/\True) Y ?_ ?_ hK).iff ?_
   ·intro r k z;simp only[Q42.s2,zcp4];rw[decide_eq_true (by omega:(k:Int)<(B3 d.2.2.2:Int)),ar k (by omega)];simp only[cond_true];refine Rnd.ix (ag z) (Rnd.nx (pS K n _) λ_=>Rnd.two (λh0=>?_) Rnd.end_);rw[fe k h0 (by omega)];exact Rnd.ix (ag (show k-1<d.2.2.2.length by omega)) (Rnd.cndN (by simp) λ_=>Rnd.end_)
   ·intro r;simp only[Q42.s2,zcp4,aS];rfl
   ·rw[xv];constructor
    ·intro h k z;exact⟨(h k z).1,(h k z).2.1⟩
    ·intro h k z;exact⟨(h k z).1,(h k z).2,trivial⟩
  have y:i<S.length:=by omega
  have hr:Rnd (Q42.s1 K (n,()) (Q42.l2 K (n,()) rec) rec (S,(i:Int)))
    (¬ (aa.doubts n)[i].1≠S[i].1/\¬ (aa.doubts n)[i].2.1≠S[i].2.1/\InP (aa.doubts n)[i].2.2.1 0 n.2.2.2.2.2.1/\¬ (aa.doubts n)[i].2.2.2=[]/\ByP n.1 (aa.doubts n)[i].2.2.2) (rec (S,((i+1:Nat):Int))):=by
   rw[<- ar i (by omega)];simp only[Q42.s1];rw[decide_eq_true (show ((i:Int)<(B3 (aa.doubts n):Int)) by omega),Int.toNat_natCast];simp only[cond_true];exact Rnd.ix (ag u) (Rnd.ix (ag y) (Rnd.ix (ag y) (Rnd.cndN (by simp) λ_=>Rnd.ix (ag y) (Rnd.ix (ag y) (Rnd.cndN (by simp) λ_=>Rnd.nx (eP K _ _ _) λ_=>Rnd.cndN (pf _) λ_=>H)))))
  exact hr.imp (λh=>⟨λ_=>h.1,h.2⟩) (λh=>⟨λI=>h.1 (I u),h.2⟩)
 ·intro rec;simp only[Q42.s1,aS];rfl
theorem zc (K:Nat)(n:aa)(Z:NB n)(hT:aw (aa.table n))(hK:1048577<K):Ret (Q42.f K (n,())) (iU n):=by
 have hl:=Z.table;have a2:=Z.doubts;have X:∀ (d k i:Nat),i+d=(aa.table n).length->d<k->ae (λrec a=>Q42.s0 K (n,()) (Q42.l1 K (n,())) rec a) k (aU ((aa.table n).take i),(i:Int)) =
   (bif (B3 (aa.doubts n):Int) != (B3 (aU (aa.table n)):Int) then rb false else Q42.l1 K (n,()) (aU (aa.table n),0)):=by
  intro d;induction d with
  |zero =>
   intro k i z hk;obtain⟨k,rfl⟩:∃ k',k=k'+1:=⟨k-1,by omega⟩;show Q42.s0 K (n,()) _ _ _=_;simp only[Q42.s0];rw[decide_eq_false (show ¬ ((i:Int)<(B3 (aa.table n):Int)) by omega),CH (by omega)];rfl
  |succ d J =>
   intro k i z hk;obtain⟨k,rfl⟩:∃ k',k=k'+1:=⟨k-1,by omega⟩;have J:=J k (i+1) (by omega) (by omega);have O:i<(aa.table n).length:=by omega
   show Q42.s0 K (n,()) _ _ _=_;simp only[Q42.s0];rw[decide_eq_true (show ((i:Int)<(B3 (aa.table n):Int)) by omega),ag O,ar i (by omega)];simp only[cond_true,B4];have e:aU ((aa.table n).take (i+1))=aU ((aa.table n).take i)++(if (aa.table n)[i].2.2.1==2 then [(aa.table n)[i]] else []):=by
    rw[aU,CL,B8 O,List.filter_append];simp[aU,CF]
   cases hb:((aa.table n)[i].2.2.1==2) with
   |true =>
    rw[hb]at e;simp only[if_true]at e;simp only[cond_true];have a1:(aU ((aa.table n).take i)).length<=i:=Nat.le_trans (List.length_filter_le _ _) (by simp;omega);have hs:decide ((B3 (aU ((aa.table n).take i))+B3 [(aa.table n)[i]])*32<=am)=true:=decide_eq_true (by simp only[am,CI];omega);rw[hs];rw[e]at J;exact J
   |false =>
    rw[hb]at e;simp only[CA,if_false,List.append_nil]at e;rw[e]at J;exact J
 have h0:Q42.f K (n,())=_:=X (aa.table n).length K 0 (by omega) (by omega);rw[h0];have y:∀ f∈aU (aa.table n),f∈aa.table n/\f.2.2.1=2:=λf I=>by
  rw[aU,CO]at I;exact⟨I.1,by simpa using I.2⟩
 have u:Asc (λf:af=>f.1) (aU (aa.table n)):=List.Pairwise.filter _ hT.2;by_cases r:(aU (aa.table n)).length=(aa.doubts n).length
 ·have:((B3 (aa.doubts n):Int) != (B3 (aU (aa.table n)):Int))=false:=by simp[r]
  rw[this];refine (Ap K n Z _ r hK).iff ⟨λh=>⟨?_,?_,r⟩,λ⟨h1,h2,_⟩ i z=>?_⟩
  ·rw[dQ];intro i z;obtain⟨R,h4,h5,h6,h7⟩:=h i z;obtain⟨h8,h9⟩:=y _ (B5 (show i<(aU (aa.table n)).length by omega));exact⟨⟨_,h8,R.symm,h9,h4.symm⟩,h5,h6,h7⟩
  ·rw[cI]at u ⊢;intro i j z hj a0;have:=u i j (by omega) (by omega) a0;rw[(h i z).1,(h j hj).1];exact this
  ·have H:=js ((aa.doubts n).map (·.1)) ((aU (aa.table n)).map (·.1)) (by rw[CE];exact h2) (by rw[CE];exact u) (by
    intro x hx;obtain⟨d,hd,rfl⟩:=CQ.1 hx;obtain⟨⟨f,I,Y,e2,_⟩,_⟩:=h1 d hd;exact CQ.2 ⟨f,by rw[aU,CO];exact⟨I,by simpa using e2⟩,Y⟩)
   have H:=H.2 (by simp[r]);have M:i<(aU (aa.table n)).length:=by omega
   have e:(aa.doubts n)[i].1=(aU (aa.table n))[i].1:=by
    have R:((aa.doubts n).map (·.1))[i]?=((aU (aa.table n)).map (·.1))[i]?:=by rw[H]
    rw[CM,CM,B8 z,B8 M]at R;simpa using R
   obtain⟨⟨f,I,Y,e2,e3⟩,h4,h5,h6⟩:=h1 _ (B5 z);have:=fD hT.2 I (y _ (B5 M)).1 (Y.trans e);subst this;exact⟨e,e3.symm,h4,h5,h6⟩
 ·have:((B3 (aa.doubts n):Int) != (B3 (aU (aa.table n)):Int))=true:=by simp;omega
  rw[this];exact Ret.no (λh=>r h.2.2)
def pT (n:aa):Prop:=n.2.2.1=false/\n.2.2.2.2.1=0/\n.2.2.2.2.2.1=0/\n.2.2.2.2.2.2.1=0/\n.2.2.2.2.2.2.2.1=0 /\
 wr .i64 (wr .i64 (wr .i64 (wr .i64 ((B3 (aa.table n):Int)+(B3 (aa.cast n):Int))+(B3 (aa.doubts n):Int))+(B3 (aa.places n):Int))+(B3 (aa.others n):Int))=0 /\
 aa.probe n=(0,0,0,false)/\aa.coord n=(0,0,0,0)
def UpP (n:aa):Prop:=aw (aa.table n)/\bV (aa.table n) (aj n.1)/\cV n/\(c5 (aa.cast n)/\im (aa.table n) (aa.cast n))/\da n/\iU n/\cN (aa.coord n)/\eK n.1 (aa.places n)/\dk n.1 (aa.others n)
def gu (n:aa):Prop:=InP n.1 0 7/\InP n.2.2.2.2.2.1 0 999999/\InP n.2.2.2.2.2.2.1 0 999999/\InP n.2.2.2.2.2.2.2.1 0 8/\InP n.2.2.2.2.1 0 999/\(if n.2.1=true then UpP n else pT n)
theorem tm (K:Nat)(n:aa)(r:NB n)(u:1048577<K):Ret (Q113.f K (n,())) (gu n):=by
 refine Ret.nx (cM K _ _ _) λ_=>Ret.nx (cM K _ _ _) λ_=>Ret.nx (cM K _ _ _) λ_=>Ret.nx (cM K _ _ _) λ_=>Ret.nx (cM K _ _ _) λ_=>?_
 dsimp only;cases X:n.2.1 with
 |false =>
  simp only[CJ,cond_true,CA,if_false,pT];refine Ret.cnd (by simp) λ_=>Ret.cnd (by simp) λ_=>Ret.cnd (by simp) λ_=>Ret.cnd (by simp) λ_=>Ret.cnd (by simp) λ_=>Ret.cnd (by simp) λ_=>?_
  refine Ret.iff (Ret.cnd (P:=(aa.probe n).1=0) (by simp) λ_=>Ret.cnd (P:=(aa.probe n).2.1=0) (by simp) λ_=>Ret.cnd (P:=(aa.probe n).2.2.1=0) (by simp) λ_=>Ret.cnd (P:=(aa.probe n).2.2.2=false) (by simp) λ_ =>
   Ret.cnd (P:=(aa.coord n).1=0) (by simp) λ_=>Ret.cnd (P:=(aa.coord n).2.1=0) (by simp) λ_=>Ret.cnd (P:=(aa.coord n).2.2.1=0) (by simp) λ_=>Ret.of (P:=(aa.coord n).2.2.2=0) (by simp)) ?_
  generalize aa.probe n=p;generalize aa.coord n=c;obtain⟨M,J,O,z⟩:=p;obtain⟨I,R,Y,H⟩:=c;simp only[CK];constructor
  ·rintro⟨h1,h2,h3,h4,h5,h6,h7,h8⟩;exact⟨⟨h1,h2,h3,h4⟩,h5,h6,h7,h8⟩
  ·rintro⟨⟨h1,h2,h3,h4⟩,h5,h6,h7,h8⟩;exact⟨h1,h2,h3,h4,h5,h6,h7,h8⟩
 |true =>
  simp only[B7,cond_false,if_true,UpP];exact Ret.px (gF K _ r.table u) λy=>Ret.vl (eQ K _) (Ret.px (gG K _ _ r.table u) λ_=>Ret.px (Bk K n r y u) λ_=>Ret.px (uC K n r y u) λ_=>Ret.px (Al K n r u) λ_ =>
   Ret.px (zb K n r y u) λ_=>Ret.px (iT K _) λ_=>Ret.px (yX K n r u) λ_=>(yZ K n r u).id)
theorem Bo (K:Nat)(n:aa):Ret (Q15.f K (n,())) (pT n):=by
 simp only[Q15.f,jR,Bl,pT];exact Ret.cnd (by simp) λ_=>Ret.cnd (by simp) λ_=>Ret.cnd (by simp) λ_=>Ret.cnd (by simp) λ_=>Ret.cnd (by simp) λ_=>Ret.cnd (by simp) λ_=>Ret.cnd (by simp) λ_=>Ret.dec
theorem ju (K:Nat)(n:aa)(r:NB n)(u:1048577<K):Ret (Q50.f K (n,())) (gu n):=by
 refine Ret.nx (jt K _) λ_=>Ret.nx (eP K _ _ _) λ_=>Ret.nx (eP K _ _ _) λ_=>Ret.nx (eP K _ _ _) λ_=>Ret.nx (eP K _ _ _) λ_=>?_
 dsimp only;cases z:n.2.1 with
 |false =>
  simp only[CJ,cond_true,CA,if_false];exact (Bo K n).id
 |true =>
  simp only[B7,cond_false,if_true,UpP];refine Ret.iff (Ret.px (qK K n r u) λy=>Ret.px (Am K n r y.1 u) λ_=>Ret.px (zc K n r y.1 u) λ_=>Ret.px (oa K _) λ_=>Ret.px (yY K n r u) λ_=>(za K n r u).id) ?_;constructor
  ·rintro⟨⟨h1,h2,h3,h4,h5⟩,h6,h7,h8,h9,h10⟩;exact⟨h1,h2,h3,⟨h4,h5⟩,h6,h7,h8,h9,h10⟩
  ·rintro⟨h1,h2,h3,⟨h4,h5⟩,h6,h7,h8,h9,h10⟩;exact⟨⟨h1,h2,h3,h4,h5⟩,h6,h7,h8,h9,h10⟩
theorem oc {A R:Type}{step:(A->Option R)->A->Option R}(n:Nat)(S:Nat->A)(rt:Option R)(h:∀ (rec:A->Option R) (i:Nat),i<n->step rec (S i)=rec (S (i+1)))(r:∀ rec:A->Option R,step rec (S n)=rt)
  {k:Nat} (y:n<k):ae step k (S 0)=rt:=by
 rcases mn (step:=step) n S (λ_=>True) rt none (λrec i z=>.inl ⟨trivial,h rec i z⟩) r n k 0 (by omega) y with ⟨_,u⟩|⟨u,_⟩
 ·exact u
 ·exact absurd (λ_ _ _=>trivial) u
def Szd (o:Option ((Int×Unit)×Unit))(left:Int)(Q:Prop):Prop:=∃ r,o=some ((r,()),())/\(r<0\/(0<=r/\r<=left/\Q))
theorem Szd.sub (left:Int)(n:Nat)(J:0<=left)(I:left<=1048576)(M:n<=9223372036854775807){g:Option ((Int×Unit)×Unit)}{Q:Prop}(H:wr .i64 (left-(n:Int))=left-n->(n:Int)<=left->Szd g (left-n) Q) :
  Szd (bif decide (wr .i64 (left-(n:Int))<0) then some ((-1,()),()) else g) left (n<=1048576/\Q):=by
 have e:wr .i64 (left-(n:Int))=left-n:=aA (by omega) (by omega);by_cases h:left-(n:Int)<0
 ·rw[e,decide_eq_true h];exact⟨-1,rfl,.inl (by decide)⟩
 ·rw[decide_eq_false (by rw[e];exact h)];obtain⟨r,y,z⟩:=H e (by omega);exact⟨r,y,z.imp id λu=>⟨u.1,by omega,by omega,u.2.2⟩⟩
theorem Szd.bind {o:Option ((Int×Unit)×Unit)}{left:Int}{P Q:Prop}{G:(Int×Unit)×Unit->Option ((Int×Unit)×Unit)}(h:Szd o left P)(J:∀ r,0<=r->r<=left->P->Szd (G ((r,()),())) r Q) :
  Szd (o.bind λy=>bif decide (y.1.1<0) then some ((-1,()),()) else G y) left (P/\Q):=by
 obtain⟨r,O,u⟩:=h;rw[O,B4];rcases u with u|⟨u,R,z⟩
 ·rw[decide_eq_true u];exact⟨-1,rfl,.inl (by decide)⟩
 ·rw[show decide (r<0)=false from decide_eq_false (by omega)];obtain⟨X,M,I⟩:=J r u R z;exact⟨X,M,I.imp id λH=>⟨H.1,by omega,z,H.2.2⟩⟩
theorem Szd.ret (r:Int)(h:0<=r):Szd (some ((r,()),())) r True:=⟨r,rfl,.inr ⟨h,Int.le_refl _,trivial⟩⟩
theorem Szd.iff {o:Option ((Int×Unit)×Unit)}{left:Int}{P Q:Prop}(h:Szd o left P)(e:P->Q):Szd o left Q:=by
 obtain⟨r,y,z⟩:=h;exact⟨r,y,z.imp id λu=>⟨u.1,u.2.1,e u.2.2⟩⟩
end Go.Proofs.YtadlacffdemoiaaGreatEv
